/- Buffers: the walk of BuffersOwn. -/
import Derived.Test.YtdeghpmlhcaedaaDoorOb
import Derived.IntWalk
namespace Go.Proofs.YtdeghpmlhcaedaaDoor
open Go.RowKit
open Go.ChangeMaps (setBlock)
set_option linter.unusedSimpArgs false
set_option linter.unusedVariables false
attribute [local go_sem ↓] wlItem ldItem stItem wlRdy ldRdy stRdy wlMsg ldMsg stMsg wlKey ldKey stKey wlRole ldRole stRole wlSg ldSg stSg eqKey1 eqRole1 eqSig1
attribute [local go_sem] cell_blk frozen_blk one_int one_bool one_ptr one_slice one_map Value.cells itr_size itr_all itr_one itr_one' zItem_size zItem_all zItem_one rdr_size rdr_all rdr_one rdr_one' zRdy_size msg_size msg_all msg_one msg_one' zMsg_size kc_size kc_ext kc_one0 kc_one zKey_size zRole_size
set_option maxRecDepth 20000 in
set_option maxHeartbeats 25600000 in
theorem ownLaw_c {a1 a2 : Option Addr} {b d : List UInt8} {c1 c2 : Nat} (k : Key) (w : World) (hb : SlAt uc 1 w a1 b) (hd : SlAt uc 1 w a2 d) (hb2 : b.length ≤ 140737488355328) (hd2 : d.length ≤ 140737488355328) (ht : TabW w) :
    Calls Tryd.prog 5 #[.slice a1 b.length c1, .agg (kc k), .slice a2 d.length c2] w fun e w' => e = .returned (.bool true) ∧ Mod (fun _ => False) w w' := by
  have HT := Lib.hid ht
  have HA := Lib.hid (And.intro hb hd)
  clear hb hd ht
  generalize hnb : b.length = nb at *
  generalize hnd : d.length = nd at *
  have HN := Lib.hid (And.intro hnb hnd)
  clear hnb hnd
  go_enter Tryd.func5, Tryd.ntmps5
  go_upto_region 0 with fail
  refine wp_pass0 (C := fun _ _ _ => False) (κ := fun i => [3, 0].getD i 0) [0, 1] (by kernel_rfl) (by kernel_rfl) (fun _ _ d _ _ h => by cases d <;> first | exact h | exact absurd h (hP _ _ _)) ?_
  (refine TD.box (v := ?v1) (by simp only [zA, zB, zC]; rfl) rfl ?hw1 rfl rfl ?hx1 (fun p4 hp4 => ?hn1); (case hw1 => rfl); (case hx1 => (simp only [Act.eval, zD, zA, zB, zC, zE]; (try rfl))); (try simp only [Act.put, zF, zG, zH]))
  (refine TD.val0 (v := ?v2) (by simp only [zA, zB, zC]; rfl) rfl ?hw2 (fun w1 => ?hy2) ?hn2; (case hw2 => rfl); (case hy2 => (go_simp; (try with_reducible rfl))); (try simp only [Act.put, zF, zG, zH]))
  refine TD.nil (fun w1 hr => ?_)
  have kp4 := hr.box p4 _ (by first | exact Bx.set_same _ _ _ | (simp only [Bx.set_same]; rfl)); dsimp only [Value.cells] at kp4; obtain ⟨gp4, kp4⟩ := kp4
  have m1 := hr.mod
  clear hr
  by_cases h1 : nb = 0
  · subst h1
    go_wp2_with fail
    go_at_call 7
    refine (lives_c _ (HT.out.mod0 m1)).mono ?_
    rintro e w4 ⟨rfl, m4⟩
    go_wp2_with fail
    go_ret
    exact ⟨rfl, m1.then0 m4⟩
  by_cases h2 : nd = 0
  · subst h2
    have g1 : ((nb : Int) == 0) = false := by rw [beq_eq_false_iff_ne]; omega
    go_wp2_with fail
    go_at_call 7
    refine (lives_c _ (HT.out.mod0 m1)).mono ?_
    rintro e w4 ⟨rfl, m4⟩
    go_wp2_with fail
    go_ret
    exact ⟨rfl, m1.then0 m4⟩
  have g1 : ((nb : Int) == 0) = false := by rw [beq_eq_false_iff_ne]; omega
  have g2 : ((nd : Int) == 0) = false := by rw [beq_eq_false_iff_ne]; omega
  by_cases h3 : (10000 : Int) < (nb : Int) + (nd : Int)
  · have h4 := decide_eq_true h3
    go_wp2_with fail
    go_at_call 7
    refine (lives_c _ (HT.out.mod0 m1)).mono ?_
    rintro e w4 ⟨rfl, m4⟩
    go_wp2_with fail
    go_ret
    exact ⟨rfl, m1.then0 m4⟩
  have h4 := decide_eq_false h3
  have HS : Hid (1 ≤ nb ∧ 1 ≤ nd ∧ nb ≤ 10000 ∧ nd ≤ 10000) := Lib.hid (by omega)
  obtain ⟨b0, hb0⟩ : ∃ x, b[0]? = some x := ⟨_, List.getElem?_eq_getElem (by have := HN.out.1; have := HS.out.1; omega)⟩
  obtain ⟨d0, hd0⟩ : ∃ x, d[0]? = some x := ⟨_, List.getElem?_eq_getElem (by have := HN.out.2; have := HS.out.2.1; omega)⟩
  obtain ⟨g1b, o1b, C1b, U1b, fr1b, rfl, kB, heB, _⟩ := HA.out.1.block hb0
  obtain ⟨g2d, o2d, C2d, U2d, fr2d, rfl, kD, heD, _⟩ := HA.out.2.block hd0
  have qB : C1b[o1b]? = some (u8v b0) := by have h0 := cellC heB (j := 0) (v := u8v b0) rfl; simpa using h0
  have qD : C2d[o2d]? = some (u8v d0) := by have h0 := cellC heD (j := 0) (v := u8v d0) rfl; simpa using h0
  have HBD := Lib.hid (And.intro (And.intro kB qB) (And.intro kD qD))
  have HZ := Lib.hid (And.intro hb0 hd0)
  have hne : b ≠ [] := fun e => by rw [e] at hb0; cases hb0
  have hne2 : d ≠ [] := fun e => by rw [e] at hd0; cases hd0
  have HNE := Lib.hid (And.intro hne hne2)
  clear heB heD hb0 hd0 kB qB kD qD hne hne2
  obtain ⟨ql, hql⟩ : ∃ q, q = p4 + 1 := ⟨_, rfl⟩
  have hq0 : ql ≤ w1.heap.size := by have := lt_size kp4; omega
  have HQ := Lib.hid hql
  clear hql
  go_upto_region 3 with fail
  clear h1 h2 h3 h4 g1 g2 hb2 hd2
  have Lkp4 := lt_size kp4
  refine wp_gpass (T0 := fun _ => False) (K := fun _ _ => True) (κ := fun i => [0, 3, 0, 6, 0, 6, 0, 3, 0, 6, 0, 6, 0, 3, 0, 3, 4].getD i 0) (υ := fun i => [[], [], [], [], [], [], [], [], [], [], [], [], [], [], [], [], []].getD i []) [0, 2, 3, 4, 5, 8, 9, 10, 11, 1, 6, 7, 12, 13, 14, 15, 16] (by kernel_rfl) (by kernel_rfl) (Good.true).cl (trivial) (fun _ h => h.elim) ?_
  have gK := Good.true
  (refine TG.load (v := ?v3) (p := ?p3) (by simp only [zA, zB, zC]; rfl) rfl ?hw3 rfl ?hx3 (fun wq hSq => ?hy3) ?hn3; (case hw3 => rfl); (case hx3 => (simp only [Act.eval, zD, zA, zB, zC, zE]; (try rfl))); (case hy3 => (have kp4q := hSq.at kp4 (by intro hT; first | exact hT | exact absurd hT (by assumption) | omega | (simp only at hT; omega)); go_simp; (try with_reducible rfl))); (try simp only [Act.put, zF, zG, zH]))
  (refine TG.v0 (v := ?v4) (by simp only [zA, zB, zC]; rfl) rfl ?hw4 (fun w1 => ?hy4) ?hn4; (case hw4 => rfl); (case hy4 => (go_simp; (try with_reducible rfl))); (try simp only [Act.put, zF, zG, zH]))
  (refine TG.appK (X := ?X5) (Y := ?Y5) (ByA (fun _ _ => True) ql nd d) (goodByA (Good.true) ql nd d) (by simp only [zA, zB, zC]; rfl) rfl ?hw5 rfl ?hx5 ?hz5 (fun T wq kq ltq hSq ub => ?hy5) ?hn5; (case hw5 => rfl); (case hx5 => (simp only [Act.eval, zD, zA, zB, zC, zE]; (try rfl))); (case hz5 => (simp only [Act.eval, zD, zA, zB, zC, zE]; (try rfl))); (case hy5 => (have kp4q := hSq.at kp4 (by intro hT; first | exact hT | exact absurd hT (by assumption) | omega | (simp only at hT; omega)); exact app_by gK kq (HA.out.2.mod0 (m1.then0 hSq)) HN.out.2 HNE.out.2 (by have := HS.out; omega) (Nat.le_trans hq0 hSq.size))); rintro v5 ⟨wI, TI, hI⟩; replace gK := (goodByA (Good.true) ql nd d) v5; (obtain ⟨_, gA, cA, rfl, _⟩ := hI.k); (try clear hI TI wI); (try simp only [Act.put, zF, zG, zH]))
  (refine TG.v0 (v := ?v6) (by simp only [zA, zB, zC]; rfl) rfl ?hw6 (fun w1 => ?hy6) ?hn6; (case hw6 => rfl); (case hy6 => (go_simp; (try with_reducible rfl))); (try simp only [Act.put, zF, zG, zH]))
  (refine TG.appK (X := ?X7) (Y := ?Y7) (ByA (ByA (fun _ _ => True) ql nd d (.slice (some ⟨gA, 0, none⟩) nd cA)) ql nd d) (goodByA (goodByA (Good.true) ql nd d (.slice (some ⟨gA, 0, none⟩) nd cA)) ql nd d) (by simp only [zA, zB, zC]; rfl) rfl ?hw7 rfl ?hx7 ?hz7 (fun T wq kq ltq hSq ub => ?hy7) ?hn7; (case hw7 => rfl); (case hx7 => (simp only [Act.eval, zD, zA, zB, zC, zE]; (try rfl))); (case hz7 => (simp only [Act.eval, zD, zA, zB, zC, zE]; (try rfl))); (case hy7 => (have kp4q := hSq.at kp4 (by intro hT; first | exact hT | exact absurd hT (by assumption) | omega | (simp only at hT; omega)); exact app_by gK kq (HA.out.2.mod0 (m1.then0 hSq)) HN.out.2 HNE.out.2 (by have := HS.out; omega) (Nat.le_trans hq0 hSq.size))); rintro v7 ⟨wI, TI, hI⟩; replace gK := (goodByA (goodByA (Good.true) ql nd d (.slice (some ⟨gA, 0, none⟩) nd cA)) ql nd d) v7; (obtain ⟨_, gB, cB, rfl, _⟩ := hI.k); (try clear hI TI wI); (try simp only [Act.put, zF, zG, zH]))
  (refine TG.v0 (v := ?v8) (by simp only [zA, zB, zC]; rfl) rfl ?hw8 (fun w1 => ?hy8) ?hn8; (case hw8 => rfl); (case hy8 => (go_simp; (try with_reducible rfl))); (try simp only [Act.put, zF, zG, zH]))
  (refine TG.appK (X := ?X9) (Y := ?Y9) (ByA (ByA (ByA (fun _ _ => True) ql nd d (.slice (some ⟨gA, 0, none⟩) nd cA)) ql nd d (.slice (some ⟨gB, 0, none⟩) nd cB)) ql nd d) (goodByA (goodByA (goodByA (Good.true) ql nd d (.slice (some ⟨gA, 0, none⟩) nd cA)) ql nd d (.slice (some ⟨gB, 0, none⟩) nd cB)) ql nd d) (by simp only [zA, zB, zC]; rfl) rfl ?hw9 rfl ?hx9 ?hz9 (fun T wq kq ltq hSq ub => ?hy9) ?hn9; (case hw9 => rfl); (case hx9 => (simp only [Act.eval, zD, zA, zB, zC, zE]; (try rfl))); (case hz9 => (simp only [Act.eval, zD, zA, zB, zC, zE]; (try rfl))); (case hy9 => (have kp4q := hSq.at kp4 (by intro hT; first | exact hT | exact absurd hT (by assumption) | omega | (simp only at hT; omega)); exact app_by gK kq (HA.out.2.mod0 (m1.then0 hSq)) HN.out.2 HNE.out.2 (by have := HS.out; omega) (Nat.le_trans hq0 hSq.size))); rintro v9 ⟨wI, TI, hI⟩; replace gK := (goodByA (goodByA (goodByA (Good.true) ql nd d (.slice (some ⟨gA, 0, none⟩) nd cA)) ql nd d (.slice (some ⟨gB, 0, none⟩) nd cB)) ql nd d) v9; (obtain ⟨_, gC, cC, rfl, _⟩ := hI.k); (try clear hI TI wI); (try simp only [Act.put, zF, zG, zH]))
  (refine TG.v0 (v := ?v10) (by simp only [zA, zB, zC]; rfl) rfl ?hw10 (fun w1 => ?hy10) ?hn10; (case hw10 => rfl); (case hy10 => (go_simp; (try with_reducible rfl))); (try simp only [Act.put, zF, zG, zH]))
  (refine TG.appK (X := ?X11) (Y := ?Y11) (ByA (ByA (ByA (ByA (fun _ _ => True) ql nd d (.slice (some ⟨gA, 0, none⟩) nd cA)) ql nd d (.slice (some ⟨gB, 0, none⟩) nd cB)) ql nd d (.slice (some ⟨gC, 0, none⟩) nd cC)) ql nd d) (goodByA (goodByA (goodByA (goodByA (Good.true) ql nd d (.slice (some ⟨gA, 0, none⟩) nd cA)) ql nd d (.slice (some ⟨gB, 0, none⟩) nd cB)) ql nd d (.slice (some ⟨gC, 0, none⟩) nd cC)) ql nd d) (by simp only [zA, zB, zC]; rfl) rfl ?hw11 rfl ?hx11 ?hz11 (fun T wq kq ltq hSq ub => ?hy11) ?hn11; (case hw11 => rfl); (case hx11 => (simp only [Act.eval, zD, zA, zB, zC, zE]; (try rfl))); (case hz11 => (simp only [Act.eval, zD, zA, zB, zC, zE]; (try rfl))); (case hy11 => (have kp4q := hSq.at kp4 (by intro hT; first | exact hT | exact absurd hT (by assumption) | omega | (simp only at hT; omega)); exact app_by gK kq (HA.out.2.mod0 (m1.then0 hSq)) HN.out.2 HNE.out.2 (by have := HS.out; omega) (Nat.le_trans hq0 hSq.size))); rintro v11 ⟨wI, TI, hI⟩; replace gK := (goodByA (goodByA (goodByA (goodByA (Good.true) ql nd d (.slice (some ⟨gA, 0, none⟩) nd cA)) ql nd d (.slice (some ⟨gB, 0, none⟩) nd cB)) ql nd d (.slice (some ⟨gC, 0, none⟩) nd cC)) ql nd d) v11; (obtain ⟨_, gD, cD, rfl, _⟩ := hI.k); (try clear hI TI wI); (try simp only [Act.put, zF, zG, zH]))
  (refine TG.bslice (by simp only [zA, zB, zC]; rfl) rfl ?hw12 rfl rfl ?hx12 (bsKey k) (fun p36 hp36 _ => ?hn12); (case hw12 => rfl); (case hx12 => (simp only [List.map_toArray, List.map_cons, List.map_nil, Act.eval, zD, zA, zB, zC, zE]; (try rfl))); (try simp only [Act.put, zF, zG, zH]))
  (refine TG.build (v := ?v13) (ps := ?p13) (by simp only [zA, zB, zC]; rfl) rfl ?hw13 rfl ?hx13 (fun w1 => ?hy13) ?hn13; (case hw13 => rfl); (case hx13 => (simp only [List.map_toArray, List.map_cons, List.map_nil, Act.eval, zD, zA, zB, zC, zE]; (try rfl))); (case hy13 => (rw [(bldIn _ _ HN.out.2)]; (try with_reducible rfl))); (try simp only [Act.put, zF, zG, zH]))
  (refine TG.bslice (by simp only [zA, zB, zC]; rfl) rfl ?hw14 rfl rfl ?hx14 (bsIns ⟨0,⟨some ⟨gA,0,none⟩,d,cA⟩,⟨some ⟨gB,0,none⟩,d,cB⟩⟩) (fun p42 hp42 _ => ?hn14); (case hw14 => rfl); (case hx14 => (simp only [List.map_toArray, List.map_cons, List.map_nil, Act.eval, zD, zA, zB, zC, zE]; (try rfl))); (try simp only [Act.put, zF, zG, zH]))
  obtain ⟨ne_p42_p36, hp42⟩ := Bx.set_none hp42
  (refine TG.build (v := ?v15) (ps := ?p15) (by simp only [zA, zB, zC]; rfl) rfl ?hw15 rfl ?hx15 (fun w1 => ?hy15) ?hn15; (case hw15 => rfl); (case hx15 => (simp only [List.map_toArray, List.map_cons, List.map_nil, Act.eval, zD, zA, zB, zC, zE]; (try rfl))); (case hy15 => (rw [(bldLo _ _ HN.out.2)]; (try with_reducible rfl))); (try simp only [Act.put, zF, zG, zH]))
  (refine TG.bslice (by simp only [zA, zB, zC]; rfl) rfl ?hw16 rfl rfl ?hx16 (bsLks ⟨key0,⟨some ⟨gC,0,none⟩,d,cC⟩,⟨some ⟨gD,0,none⟩,d,cD⟩⟩) (fun p48 hp48 _ => ?hn16); (case hw16 => rfl); (case hx16 => (simp only [List.map_toArray, List.map_cons, List.map_nil, Act.eval, zD, zA, zB, zC, zE]; (try rfl))); (try simp only [Act.put, zF, zG, zH]))
  obtain ⟨ne_p48_p42, hp48⟩ := Bx.set_none hp48
  obtain ⟨ne_p48_p36, hp48⟩ := Bx.set_none hp48
  (refine TG.build (v := ?v17) (ps := ?p17) (by simp only [zA, zB, zC]; rfl) rfl ?hw17 rfl ?hx17 (fun w1 => ?hy17) ?hn17; (case hw17 => rfl); (case hx17 => (simp only [List.map_toArray, List.map_cons, List.map_nil, Act.eval, zD, zA, zB, zC, zE]; (try rfl))); (case hy17 => (rw [bldMsg]; (try with_reducible rfl))); (try simp only [Act.put, zF, zG, zH]))
  (refine TG.allocB (by simp only [zA, zB, zC]; rfl) rfl ?hw18 rfl rfl alMsg (fun p7 hp7 _ => ?hn18); (case hw18 => rfl); (try simp only [Act.put, zF, zG, zH]))
  obtain ⟨ne_p7_p48, hp7⟩ := Bx.set_none hp7
  obtain ⟨ne_p7_p42, hp7⟩ := Bx.set_none hp7
  obtain ⟨ne_p7_p36, hp7⟩ := Bx.set_none hp7
  (refine TG.storeB (d := ?d19) (T := ?T19) (y := ?y19) (p := ?p19) (b := ?b19) (v := ?v19) (by simp only [zA, zB, zC]; rfl) rfl ?hw19 ?hd19 ?hop19 ?hev19 ?hx19 ?hb19 ?htag19 (fun w1 hb1 => ?hy19) ?hn19; (case hw19 => rfl); (case hd19 => rfl); (case hop19 => rfl); (case hev19 => (simp only [Act.eval, zD, zA, zB, zC, zE]; (try rfl))); (case hx19 => (simp only [Act.eval, zD, zA, zB, zC, zE]; (try rfl))); (case hb19 => first | exact Bx.set_same _ _ _ | (simp only [Bx.set_ne _ (Ne.symm ne_p42_p36), Bx.set_ne _ (Ne.symm ne_p48_p36), Bx.set_ne _ (Ne.symm ne_p48_p42), Bx.set_ne _ (Ne.symm ne_p7_p36), Bx.set_ne _ (Ne.symm ne_p7_p42), Bx.set_ne _ (Ne.symm ne_p7_p48), Bx.set_ne _ ne_p42_p36, Bx.set_ne _ ne_p48_p36, Bx.set_ne _ ne_p48_p42, Bx.set_ne _ ne_p7_p36, Bx.set_ne _ ne_p7_p42, Bx.set_ne _ ne_p7_p48, Bx.set_same]; rfl)); (case htag19 => rfl); (case hy19 => (go_simp; (try first | with_reducible rfl | (rw [setCell_blk hb1]; rfl)))); (try simp only [Act.put, zF, zG, zH]))
  refine TG.nil (fun w3 ⟨TR, hr⟩ => ?_)
  have kp4 := hr.mod.at kp4 (by intro hT; first | exact hT | exact absurd hT (by assumption) | omega | (simp only at hT; omega))
  have kp36 := hr.box p36 _ (by first | exact Bx.set_same _ _ _ | (simp only [Bx.set_ne _ (Ne.symm ne_p42_p36), Bx.set_ne _ (Ne.symm ne_p48_p36), Bx.set_ne _ (Ne.symm ne_p48_p42), Bx.set_ne _ (Ne.symm ne_p7_p36), Bx.set_ne _ (Ne.symm ne_p7_p42), Bx.set_ne _ (Ne.symm ne_p7_p48), Bx.set_ne _ ne_p42_p36, Bx.set_ne _ ne_p48_p36, Bx.set_ne _ ne_p48_p42, Bx.set_ne _ ne_p7_p36, Bx.set_ne _ ne_p7_p42, Bx.set_ne _ ne_p7_p48, Bx.set_same]; rfl)); dsimp only [Value.cells] at kp36; obtain ⟨gp36, nTp36, kp36⟩ := kp36
  have kp42 := hr.box p42 _ (by first | exact Bx.set_same _ _ _ | (simp only [Bx.set_ne _ (Ne.symm ne_p42_p36), Bx.set_ne _ (Ne.symm ne_p48_p36), Bx.set_ne _ (Ne.symm ne_p48_p42), Bx.set_ne _ (Ne.symm ne_p7_p36), Bx.set_ne _ (Ne.symm ne_p7_p42), Bx.set_ne _ (Ne.symm ne_p7_p48), Bx.set_ne _ ne_p42_p36, Bx.set_ne _ ne_p48_p36, Bx.set_ne _ ne_p48_p42, Bx.set_ne _ ne_p7_p36, Bx.set_ne _ ne_p7_p42, Bx.set_ne _ ne_p7_p48, Bx.set_same]; rfl)); dsimp only [Value.cells] at kp42; obtain ⟨gp42, nTp42, kp42⟩ := kp42
  have kp48 := hr.box p48 _ (by first | exact Bx.set_same _ _ _ | (simp only [Bx.set_ne _ (Ne.symm ne_p42_p36), Bx.set_ne _ (Ne.symm ne_p48_p36), Bx.set_ne _ (Ne.symm ne_p48_p42), Bx.set_ne _ (Ne.symm ne_p7_p36), Bx.set_ne _ (Ne.symm ne_p7_p42), Bx.set_ne _ (Ne.symm ne_p7_p48), Bx.set_ne _ ne_p42_p36, Bx.set_ne _ ne_p48_p36, Bx.set_ne _ ne_p48_p42, Bx.set_ne _ ne_p7_p36, Bx.set_ne _ ne_p7_p42, Bx.set_ne _ ne_p7_p48, Bx.set_same]; rfl)); dsimp only [Value.cells] at kp48; obtain ⟨gp48, nTp48, kp48⟩ := kp48
  have kp7 := hr.box p7 _ (by first | exact Bx.set_same _ _ _ | (simp only [Bx.set_ne _ (Ne.symm ne_p42_p36), Bx.set_ne _ (Ne.symm ne_p48_p36), Bx.set_ne _ (Ne.symm ne_p48_p42), Bx.set_ne _ (Ne.symm ne_p7_p36), Bx.set_ne _ (Ne.symm ne_p7_p42), Bx.set_ne _ (Ne.symm ne_p7_p48), Bx.set_ne _ ne_p42_p36, Bx.set_ne _ ne_p48_p36, Bx.set_ne _ ne_p48_p42, Bx.set_ne _ ne_p7_p36, Bx.set_ne _ ne_p7_p42, Bx.set_ne _ ne_p7_p48, Bx.set_same]; rfl)); dsimp only [Value.cells] at kp7; obtain ⟨gp7, nTp7, kp7⟩ := kp7
  clear gK
  obtain ⟨⟨⟨⟨_, hyA⟩, hyB⟩, hyC⟩, hyD⟩ := hr.k
  have HY := Lib.hid (And.intro hyA.out (And.intro hyB.out (And.intro hyC.out hyD.out)))
  have m3 := m1.then0 hr.mod
  have HG : Hid (ql ≤ p36 ∧ ql ≤ p42 ∧ ql ≤ p48) := Lib.hid ⟨by omega, by omega, by omega⟩
  have hq3 : ql ≤ w3.heap.size := Nat.le_trans hq0 hr.mod.size
  clear hr hyA hyB hyC hyD
  go_upto_region 4 with fail
  have Lkp4 := lt_size kp4
  have Lkp7 := lt_size kp7
  have Lkp36 := lt_size kp36
  have Lkp42 := lt_size kp42
  have Lkp48 := lt_size kp48
  refine wp_gpass (T0 := fun _ => False) (K := fun _ _ => True) (κ := fun i => [0, 6, 0, 0, 3, 0, 3, 0, 0, 0, 3, 4].getD i 0) (υ := fun i => [[], [], [], [], [], [], [], [], [], [], [], []].getD i []) [0, 1, 2, 7, 3, 4, 5, 6, 8, 9, 10, 11] (by kernel_rfl) (by kernel_rfl) (Good.true).cl (trivial) (fun _ h => h.elim) ?_
  have gK := Good.true
  (refine TG.v0 (v := ?v20) (by simp only [zA, zB, zC]; rfl) rfl ?hw20 (fun w1 => ?hy20) ?hn20; (case hw20 => rfl); (case hy20 => (go_simp; (try with_reducible rfl))); (try simp only [Act.put, zF, zG, zH]))
  (refine TG.appK (X := ?X21) (Y := ?Y21) (ByA (fun _ _ => True) ql nb b) (goodByA (Good.true) ql nb b) (by simp only [zA, zB, zC]; rfl) rfl ?hw21 rfl ?hx21 ?hz21 (fun T wq kq ltq hSq ub => ?hy21) ?hn21; (case hw21 => rfl); (case hx21 => (simp only [Act.eval, zD, zA, zB, zC, zE]; (try rfl))); (case hz21 => (simp only [Act.eval, zD, zA, zB, zC, zE]; (try rfl))); (case hy21 => (have kp4q := hSq.at kp4 (by intro hT; first | exact hT | exact absurd hT (by assumption) | omega | (simp only at hT; omega)); have kp7q := hSq.at kp7 (by intro hT; first | exact hT | exact absurd hT (by assumption) | omega | (simp only at hT; omega)); have kp36q := hSq.at kp36 (by intro hT; first | exact hT | exact absurd hT (by assumption) | omega | (simp only at hT; omega)); have kp42q := hSq.at kp42 (by intro hT; first | exact hT | exact absurd hT (by assumption) | omega | (simp only at hT; omega)); have kp48q := hSq.at kp48 (by intro hT; first | exact hT | exact absurd hT (by assumption) | omega | (simp only at hT; omega)); exact app_by gK kq (HA.out.1.mod0 (m3.then0 hSq)) HN.out.1 HNE.out.1 (by have := HS.out; omega) (Nat.le_trans hq3 hSq.size))); rintro v21 ⟨wI, TI, hI⟩; replace gK := (goodByA (Good.true) ql nb b) v21; (obtain ⟨_, gE, cE, rfl, _⟩ := hI.k); (try clear hI TI wI); (try simp only [Act.put, zF, zG, zH]))
  (refine TG.load (v := ?v22) (p := ?p22) (by simp only [zA, zB, zC]; rfl) rfl ?hw22 rfl ?hx22 (fun wq hSq => ?hy22) ?hn22; (case hw22 => rfl); (case hx22 => (simp only [Act.eval, zD, zA, zB, zC, zE]; (try rfl))); (case hy22 => (have kp4q := hSq.at kp4 (by intro hT; first | exact hT | exact absurd hT (by assumption) | omega | (simp only at hT; omega)); have kp7q := hSq.at kp7 (by intro hT; first | exact hT | exact absurd hT (by assumption) | omega | (simp only at hT; omega)); have kp36q := hSq.at kp36 (by intro hT; first | exact hT | exact absurd hT (by assumption) | omega | (simp only at hT; omega)); have kp42q := hSq.at kp42 (by intro hT; first | exact hT | exact absurd hT (by assumption) | omega | (simp only at hT; omega)); have kp48q := hSq.at kp48 (by intro hT; first | exact hT | exact absurd hT (by assumption) | omega | (simp only at hT; omega)); go_simp; (try with_reducible rfl))); (try simp only [Act.put, zF, zG, zH]))
  (refine TG.load (v := ?v23) (p := ?p23) (by simp only [zA, zB, zC]; rfl) rfl ?hw23 rfl ?hx23 (fun wq hSq => ?hy23) ?hn23; (case hw23 => rfl); (case hx23 => (simp only [Act.eval, zD, zA, zB, zC, zE]; (try rfl))); (case hy23 => (have kp4q := hSq.at kp4 (by intro hT; first | exact hT | exact absurd hT (by assumption) | omega | (simp only at hT; omega)); have kp7q := hSq.at kp7 (by intro hT; first | exact hT | exact absurd hT (by assumption) | omega | (simp only at hT; omega)); have kp36q := hSq.at kp36 (by intro hT; first | exact hT | exact absurd hT (by assumption) | omega | (simp only at hT; omega)); have kp42q := hSq.at kp42 (by intro hT; first | exact hT | exact absurd hT (by assumption) | omega | (simp only at hT; omega)); have kp48q := hSq.at kp48 (by intro hT; first | exact hT | exact absurd hT (by assumption) | omega | (simp only at hT; omega)); go_simp; (try with_reducible rfl))); (try simp only [Act.put, zF, zG, zH]))
  (refine TG.build (v := ?v24) (ps := ?p24) (by simp only [zA, zB, zC]; rfl) rfl ?hw24 rfl ?hx24 (fun w1 => ?hy24) ?hn24; (case hw24 => rfl); (case hx24 => (simp only [List.map_toArray, List.map_cons, List.map_nil, Act.eval, zD, zA, zB, zC, zE]; (try rfl))); (case hy24 => (rw [bldRole1]; (try with_reducible rfl))); (try simp only [Act.put, zF, zG, zH]))
  (refine TG.bslice (by simp only [zA, zB, zC]; rfl) rfl ?hw25 rfl rfl ?hx25 (bsRol ⟨k,false,false⟩) (fun p54 hp54 _ => ?hn25); (case hw25 => rfl); (case hx25 => (simp only [List.map_toArray, List.map_cons, List.map_nil, Act.eval, zD, zA, zB, zC, zE]; (try rfl))); (try simp only [Act.put, zF, zG, zH]))
  (refine TG.build (v := ?v26) (ps := ?p26) (by simp only [zA, zB, zC]; rfl) rfl ?hw26 rfl ?hx26 (fun w1 => ?hy26) ?hn26; (case hw26 => rfl); (case hx26 => (simp only [List.map_toArray, List.map_cons, List.map_nil, Act.eval, zD, zA, zB, zC, zE]; (try rfl))); (case hy26 => (rw [bldSig]; (try with_reducible rfl))); (try simp only [Act.put, zF, zG, zH]))
  (refine TG.bslice (by simp only [zA, zB, zC]; rfl) rfl ?hw27 rfl rfl ?hx27 (bsSig sig1) (fun p56 hp56 _ => ?hn27); (case hw27 => rfl); (case hx27 => (simp only [List.map_toArray, List.map_cons, List.map_nil, Act.eval, zD, zA, zB, zC, zE]; (try rfl))); (try simp only [Act.put, zF, zG, zH]))
  obtain ⟨ne_p56_p54, hp56⟩ := Bx.set_none hp56
  (refine TG.build (v := ?v28) (ps := ?p28) (by simp only [zA, zB, zC]; rfl) rfl ?hw28 rfl ?hx28 (fun w1 => ?hy28) ?hn28; (case hw28 => rfl); (case hx28 => (simp only [List.map_toArray, List.map_cons, List.map_nil, Act.eval, zD, zA, zB, zC, zE]; (try rfl))); (case hy28 => (rw [bldTx]; (try with_reducible rfl))); (try simp only [Act.put, zF, zG, zH]))
  (refine TG.build (v := ?v29) (ps := ?p29) (by simp only [zA, zB, zC]; rfl) rfl ?hw29 rfl ?hx29 (fun w1 => ?hy29) ?hn29; (case hw29 => rfl); (case hx29 => (simp only [List.map_toArray, List.map_cons, List.map_nil, Act.eval, zD, zA, zB, zC, zE]; (try rfl))); (case hy29 => (rw [(bldReady HN.out.1 k d ⟨gE,cE,p56,1,p36,1,p42,1,gA,cA,gB,cB,p48,1,gC,cC,gD,cD,p54,1⟩)]; (try with_reducible rfl))); (try simp only [Act.put, zF, zG, zH]))
  (refine TG.allocB (by simp only [zA, zB, zC]; rfl) rfl ?hw30 rfl rfl alRdy (fun p8 hp8 _ => ?hn30); (case hw30 => rfl); (try simp only [Act.put, zF, zG, zH]))
  obtain ⟨ne_p8_p56, hp8⟩ := Bx.set_none hp8
  obtain ⟨ne_p8_p54, hp8⟩ := Bx.set_none hp8
  (refine TG.storeB (d := ?d31) (T := ?T31) (y := ?y31) (p := ?p31) (b := ?b31) (v := ?v31) (by simp only [zA, zB, zC]; rfl) rfl ?hw31 ?hd31 ?hop31 ?hev31 ?hx31 ?hb31 ?htag31 (fun w1 hb1 => ?hy31) ?hn31; (case hw31 => rfl); (case hd31 => rfl); (case hop31 => rfl); (case hev31 => (simp only [Act.eval, zD, zA, zB, zC, zE]; (try rfl))); (case hx31 => (simp only [Act.eval, zD, zA, zB, zC, zE]; (try rfl))); (case hb31 => first | exact Bx.set_same _ _ _ | (simp only [Bx.set_ne _ (Ne.symm ne_p56_p54), Bx.set_ne _ (Ne.symm ne_p8_p54), Bx.set_ne _ (Ne.symm ne_p8_p56), Bx.set_ne _ ne_p56_p54, Bx.set_ne _ ne_p8_p54, Bx.set_ne _ ne_p8_p56, Bx.set_same]; rfl)); (case htag31 => rfl); (case hy31 => (go_simp; (try first | with_reducible rfl | (rw [setCell_blk hb1]; rfl)))); (try simp only [Act.put, zF, zG, zH]))
  refine TG.nil (fun w4 ⟨TR, hr⟩ => ?_)
  have kp4 := hr.mod.at kp4 (by intro hT; first | exact hT | exact absurd hT (by assumption) | omega | (simp only at hT; omega))
  have kp7 := hr.mod.at kp7 (by intro hT; first | exact hT | exact absurd hT (by assumption) | omega | (simp only at hT; omega))
  have kp36 := hr.mod.at kp36 (by intro hT; first | exact hT | exact absurd hT (by assumption) | omega | (simp only at hT; omega))
  have kp42 := hr.mod.at kp42 (by intro hT; first | exact hT | exact absurd hT (by assumption) | omega | (simp only at hT; omega))
  have kp48 := hr.mod.at kp48 (by intro hT; first | exact hT | exact absurd hT (by assumption) | omega | (simp only at hT; omega))
  have kp54 := hr.box p54 _ (by first | exact Bx.set_same _ _ _ | (simp only [Bx.set_ne _ (Ne.symm ne_p56_p54), Bx.set_ne _ (Ne.symm ne_p8_p54), Bx.set_ne _ (Ne.symm ne_p8_p56), Bx.set_ne _ ne_p56_p54, Bx.set_ne _ ne_p8_p54, Bx.set_ne _ ne_p8_p56, Bx.set_same]; rfl)); dsimp only [Value.cells] at kp54; obtain ⟨gp54, nTp54, kp54⟩ := kp54
  have kp56 := hr.box p56 _ (by first | exact Bx.set_same _ _ _ | (simp only [Bx.set_ne _ (Ne.symm ne_p56_p54), Bx.set_ne _ (Ne.symm ne_p8_p54), Bx.set_ne _ (Ne.symm ne_p8_p56), Bx.set_ne _ ne_p56_p54, Bx.set_ne _ ne_p8_p54, Bx.set_ne _ ne_p8_p56, Bx.set_same]; rfl)); dsimp only [Value.cells] at kp56; obtain ⟨gp56, nTp56, kp56⟩ := kp56
  have kp8 := hr.box p8 _ (by first | exact Bx.set_same _ _ _ | (simp only [Bx.set_ne _ (Ne.symm ne_p56_p54), Bx.set_ne _ (Ne.symm ne_p8_p54), Bx.set_ne _ (Ne.symm ne_p8_p56), Bx.set_ne _ ne_p56_p54, Bx.set_ne _ ne_p8_p54, Bx.set_ne _ ne_p8_p56, Bx.set_same]; rfl)); dsimp only [Value.cells] at kp8; obtain ⟨gp8, nTp8, kp8⟩ := kp8
  clear gK
  obtain ⟨_, hyE⟩ := hr.k
  have hyE := hyE.out
  have mm := hr.mod
  have m4 := m3.then0 mm
  have hu54 : ql ≤ p54 := by omega
  have hu56 : ql ≤ p56 := by omega
  have HX : Hid (∃ K, (⟨gE, cE, p56, 1, p36, 1, p42, 1, gA, cA, gB, cB, p48, 1, gC, cC, gD, cD, p54, 1⟩ : Bk) = K ∧ RdNew ql w4 (rK b k d K)) := Lib.hid ⟨_, rfl, {
    b := hyE
    sg := NewS.one kp56 hu56 (sgc_size _)
    ks := NewS.one kp36 HG.out.1 (kc_size _)
    ins := NewS.one kp42 HG.out.2.1 rfl
    insB := fun y hy => by
      obtain rfl := List.mem_singleton.1 hy
      exact ⟨HY.out.1.mod0 mm, HY.out.2.1.mod0 mm⟩
    lks := NewS.one kp48 HG.out.2.2 (kx_size _ _)
    lksB := fun y hy => by
      obtain rfl := List.mem_singleton.1 hy
      exact ⟨HY.out.2.2.1.mod0 mm, HY.out.2.2.2.mod0 mm⟩
    ro := NewS.one kp54 hu54 (rc_size _ _ _) }⟩
  clear hr hyE mm kp7 kp36 kp42 kp48 kp54 kp56
  obtain ⟨K0, hK0, hX0⟩ := HX.out
  rw [hK0] at kp8
  clear hK0 HX
  obtain ⟨K, hK, hsx⟩ := shape_of hX0 (rK_con b k d K0) HZ.out.1 HZ.out.2
  rw [hK] at hX0 kp8
  rw [HN.out.2] at hsx
  have HX := Lib.hid (And.intro hX0 (hsx.sh (Nat.le_refl _)))
  clear hK hX0 hsx
  go_wp2_with fail
  go_at_call 8
  refine (bnewY_c w4 (n := 3) (by omega) (by omega)).mono ?_
  rintro e w5 ⟨b5, rfl, H5⟩
  obtain ⟨T5, L5⟩ := LS.start H5 (HT.out.mod0 m4)
  have HL5 := Lib.hid L5
  have kp85 := L5.m.at0 kp8
  have kp45 := L5.m.at0 kp4
  have HK := Lib.hid (And.intro kp8 kp4)
  clear H5 L5 kp8 kp4
  go_wp2_with fail
  go_at_call 9
  refine (addR_c HL5.out.bh HL5.out.bo.h0 HL5.out.tab (n := 0) ⟨rfl, fun i hi => absurd hi (Nat.not_lt_zero i)⟩ (HX.out.1.ok.mod0 HL5.out.m) ?_ 7).mono ?_
  · rw [rK_con]
    have h1 := HN.out.1
    have h2 := HN.out.2
    have h3 := HS.out
    exact ⟨by show b.length ≤ _; omega, by show 1 ≤ _; omega, by show 1 ≤ _; omega, by show 1 ≤ _; omega, fun y hy => by obtain rfl := List.mem_singleton.1 hy; exact ⟨by show d.length ≤ _; omega, by show d.length ≤ _; omega⟩, by show 1 ≤ _; omega, fun y hy => by obtain rfl := List.mem_singleton.1 hy; exact ⟨by show d.length ≤ _; omega, by show d.length ≤ _; omega⟩, by show 1 ≤ _; omega⟩
  rintro e w6 ⟨rfl, H6⟩
  obtain ⟨T6, L6, _⟩ := HL5.out.then H6
  obtain ⟨S6, hS6⟩ : ∃ S6 : List (Option It), S6 = (List.replicate 3 none).set 0 (some ⟨7, (rK b k d K).con, 0, false⟩) := ⟨_, rfl⟩
  rw [← hS6] at L6
  have HS6 : Hid (S6[0]? = some (some ⟨7, rC b k d, 0, false⟩)) := Lib.hid (by rw [hS6]; rfl)
  have kp8 := L6.m.at0 HK.out.1
  have kp4 := L6.m.at0 HK.out.2
  have HP : Hid (LP w b5 S6 T6 nd ql K w6) := Lib.hid ⟨L6.base m4, HX.out.2.mod0 L6.m, fun g hg ht => by
    have h1 := L6.up g ht
    have h2 := HX.out.2.lt g hg
    omega, by have h3 := HQ.out; exact ⟨by omega, by omega⟩⟩
  have HP8 : Hid (¬ T6 p8 ∧ ql ≤ p8) := Lib.hid ⟨fun e => by have h1 := L6.up _ e; have h2 := lt_size HK.out.1; omega, by omega⟩
  clear H6 L6 hS6 kp85 kp45 m1 m3 m4
  go_wp2_with fail
  go_loopw [14, 15, 16, 17] (fun s14 _ _ _ ws => ∃ (i : Nat) (K : Bk), i ≤ 2 ∧ s14 = .int .i64 (i : Int) ∧ Hid (LP w b5 S6 T6 nd ql K ws) ∧ ws.heap[p8]? = some (.cells (rdr (rK b k d K)) 48 (0, 0)) ∧ ws.heap[p4]? = some (.cells (kc k) 69 (0, 0))) (fun s14 _ _ _ _ => 2 - (intOf s14).toNat)
  case atStart => exact ⟨0, K, by omega, rfl, HP, kp8, kp4⟩
  case round =>
    clear HP kp8 kp4 HX HL5 HK HG HY
    obtain ⟨i, K, hi, rfl, HP, kp8, kp4⟩ := hrel
    by_cases hlt : i < 2
    · as_aux_lemma =>
        obtain ⟨R, hR, hR48, hR0, hR1, hR6, hR39, hR40, hR41⟩ := rK_rows b k d K
        rw [← hR] at kp8
        rw [HN.out.1] at hR0
        obtain ⟨gb, cb, gs, cs, gk, ck, gi, ci, ga, ca, gd, cd, gl, cl, gw, cw, gq, cq, gr, cr⟩ := K
        have HR := Lib.hid (And.intro hR hR48)
        clear hR hR48
        have hnb0 : 0 < nb := HS.out.1
        have hnd0 : 0 < nd := HS.out.2.1
        obtain ⟨C12, v12, k12, q12⟩ := HP.out.sh.fb
        dsimp only at k12
        have KK12 := Lib.hid k12
        have bb12 : p4 < gb := by have h1 := HP.out.sh.up gb (by simp [Bk.all]); have h2 := HQ.out; omega
        have ne12 : gb ≠ p8 := fun e => by rw [e, kp8] at k12; cases k12
        obtain ⟨u12, hu12⟩ := u8_inc v12
        go_upto_region 12 with fail
        have Lkp8 := lt_size kp8
        have Lkp4 := lt_size kp4
        have Lk12 := lt_size k12
        refine wp_pass0 (C := fun _ _ _ => False) (κ := fun i => [0, 1, 0, 1, 0, 0, 5].getD i 0) [0, 1, 2, 3, 4, 5, 6] (by kernel_rfl) (by kernel_rfl) (fun _ _ d _ _ h => by cases d <;> first | exact h | exact absurd h (hP _ _ _)) ?_
        (refine TD.val0 (v := ?v32) (by simp only [zA, zB, zC]; rfl) rfl ?hw32 (fun w1 => ?hy32) ?hn32; (case hw32 => rfl); (case hy32 => (go_simp; (try with_reducible rfl))); (try simp only [Act.put, zF, zG, zH]))
        (refine TD.load (v := ?v33) (p := ?p33) (Mod.refl _ _) (by simp only [zA, zB, zC]; rfl) rfl ?hw33 rfl ?hx33 (fun wq hSq => ?hy33) ?hn33; (case hw33 => rfl); (case hx33 => (simp only [Act.eval, zD, zA, zB, zC, zE]; (try rfl))); (case hy33 => (have kp8q := hSq.at kp8 (fun h => h); have kp4q := hSq.at kp4 (fun h => h); have k12q := hSq.at k12 (fun h => h); go_simp; (try with_reducible rfl))); (try simp only [Act.put, zF, zG, zH]))
        (refine TD.val0 (v := ?v34) (by simp only [zA, zB, zC]; rfl) rfl ?hw34 (fun w1 => ?hy34) ?hn34; (case hw34 => rfl); (case hy34 => (go_simp; (try with_reducible rfl))); (try simp only [Act.put, zF, zG, zH]))
        (refine TD.load (v := ?v35) (p := ?p35) (Mod.refl _ _) (by simp only [zA, zB, zC]; rfl) rfl ?hw35 rfl ?hx35 (fun wq hSq => ?hy35) ?hn35; (case hw35 => rfl); (case hx35 => (simp only [Act.eval, zD, zA, zB, zC, zE]; (try rfl))); (case hy35 => (have kp8q := hSq.at kp8 (fun h => h); have kp4q := hSq.at kp4 (fun h => h); have k12q := hSq.at k12 (fun h => h); go_simp; (try with_reducible rfl))); (try simp only [Act.put, zF, zG, zH]))
        (refine TD.val0 (v := ?v36) (by simp only [zA, zB, zC]; rfl) rfl ?hw36 (fun w1 => ?hy36) ?hn36; (case hw36 => rfl); (case hy36 => (go_simp; (try with_reducible rfl))); (try simp only [Act.put, zF, zG, zH]))
        (refine TD.val0 (v := ?v37) (by simp only [zA, zB, zC]; rfl) rfl ?hw37 (fun w1 => ?hy37) ?hn37; (case hw37 => rfl); (case hy37 => (go_simp; (try with_reducible rfl))); (try simp only [Act.put, zF, zG, zH]))
        refine TD.eff (by simp only [zA, zB, zC]; rfl) rfl (fun wE hr => ?_)
        have kp8 := hr.mod.at0 kp8
        have kp4 := hr.mod.at0 kp4
        have k12 := hr.mod.at0 k12
        have mE := hr.mod
        (refine eff_store (X := ?X38) (Y := ?Y38) (w' := ?w38) (by simp only [zA, zB, zC]; rfl) ?hw38 rfl ?hx38 ?hz38 ?hy38 ?hn38; (case hw38 => rfl); (case hx38 => (simp only [Act.eval, zD, zA, zB, zC, zE]; (try rfl))); (case hz38 => (simp only [Act.eval, zD, zA, zB, zC, zE]; (try rfl))); (case hy38 => (go_simp; (try with_reducible rfl))))
        (first | refine TE.nil_set k12 (fun w12 k12 mS => ?_) | refine TE.nil_setCell k12 (fun w12 k12 mS => ?_))
        (try simp only [Array.setIfInBounds, zF, zG, zH] at k12)
        have kp8 := mS.at_ne kp8 (by omega)
        have kp4 := mS.at_ne kp4 (by omega)
        have HP12 := Lib.hid (HP.out.st8 mE KK12.out q12 (by simp [Bk.all]) (by decide) mS k12)
        clear mE mS k12 KK12 ne12 bb12 hr q12 hu12
        obtain ⟨C13, k13, z13⟩ := HP12.out.sh.fr
        obtain ⟨x13, q13⟩ : ∃ x, C13[32]? = some x := ⟨_, Array.getElem?_eq_getElem (by omega)⟩
        dsimp only at k13
        have KK13 := Lib.hid k13
        have bb13 : p4 < gr := by have h1 := HP12.out.sh.up gr (by simp [Bk.all]); have h2 := HQ.out; omega
        have ne13 : gr ≠ p8 := fun e => by rw [e, kp8] at k13; cases k13
        go_upto_region 13 with fail
        have Lkp8 := lt_size kp8
        have Lkp4 := lt_size kp4
        have Lk13 := lt_size k13
        refine wp_pass0 (C := fun _ _ _ => False) (κ := fun i => [0, 1, 0, 0, 5].getD i 0) [0, 1, 2, 3, 4] (by kernel_rfl) (by kernel_rfl) (fun _ _ d _ _ h => by cases d <;> first | exact h | exact absurd h (hP _ _ _)) ?_
        (refine TD.val0 (v := ?v39) (by simp only [zA, zB, zC]; rfl) rfl ?hw39 (fun w1 => ?hy39) ?hn39; (case hw39 => rfl); (case hy39 => (go_simp; (try with_reducible rfl))); (try simp only [Act.put, zF, zG, zH]))
        (refine TD.load (v := ?v40) (p := ?p40) (Mod.refl _ _) (by simp only [zA, zB, zC]; rfl) rfl ?hw40 rfl ?hx40 (fun wq hSq => ?hy40) ?hn40; (case hw40 => rfl); (case hx40 => (simp only [Act.eval, zD, zA, zB, zC, zE]; (try rfl))); (case hy40 => (have kp8q := hSq.at kp8 (fun h => h); have kp4q := hSq.at kp4 (fun h => h); have k13q := hSq.at k13 (fun h => h); go_simp; (try with_reducible rfl))); (try simp only [Act.put, zF, zG, zH]))
        (refine TD.val0 (v := ?v41) (by simp only [zA, zB, zC]; rfl) rfl ?hw41 (fun w1 => ?hy41) ?hn41; (case hw41 => rfl); (case hy41 => (go_simp; (try with_reducible rfl))); (try simp only [Act.put, zF, zG, zH]))
        (refine TD.val0 (v := ?v42) (by simp only [zA, zB, zC]; rfl) rfl ?hw42 (fun w1 => ?hy42) ?hn42; (case hw42 => rfl); (case hy42 => (go_simp; (try with_reducible rfl))); (try simp only [Act.put, zF, zG, zH]))
        refine TD.eff (by simp only [zA, zB, zC]; rfl) rfl (fun wE hr => ?_)
        have kp8 := hr.mod.at0 kp8
        have kp4 := hr.mod.at0 kp4
        have k13 := hr.mod.at0 k13
        have mE := hr.mod
        (refine eff_store (X := ?X43) (Y := ?Y43) (w' := ?w43) (by simp only [zA, zB, zC]; rfl) ?hw43 rfl ?hx43 ?hz43 ?hy43 ?hn43; (case hw43 => rfl); (case hx43 => (simp only [Act.eval, zD, zA, zB, zC, zE]; (try rfl))); (case hz43 => (simp only [Act.eval, zD, zA, zB, zC, zE]; (try rfl))); (case hy43 => (go_simp; (try with_reducible rfl))))
        (first | refine TE.nil_set k13 (fun w13 k13 mS => ?_) | refine TE.nil_setCell k13 (fun w13 k13 mS => ?_))
        (try simp only [Array.setIfInBounds, zF, zG, zH] at k13)
        have kp8 := mS.at_ne kp8 (by omega)
        have kp4 := mS.at_ne kp4 (by omega)
        have HP13 := Lib.hid (HP12.out.stR mE KK13.out (by simp [Bk.all]) mS k13 (by show 34 ≤ (C13.setIfInBounds 32 (.bool true)).size; rw [Array.size_setIfInBounds]; exact z13))
        clear mE mS k13 KK13 ne13 bb13 hr z13 q13
        obtain ⟨C14, v14, k14, q14⟩ := HP13.out.sh.fs
        dsimp only at k14
        have KK14 := Lib.hid k14
        have bb14 : p4 < gs := by have h1 := HP13.out.sh.up gs (by simp [Bk.all]); have h2 := HQ.out; omega
        have ne14 : gs ≠ p8 := fun e => by rw [e, kp8] at k14; cases k14
        obtain ⟨u14, hu14⟩ := u8_inc v14
        go_upto_region 14 with fail
        have Lkp8 := lt_size kp8
        have Lkp4 := lt_size kp4
        have Lk14 := lt_size k14
        refine wp_pass (C := fun _ _ _ => False) (κ := fun i => [0, 0, 1, 0, 0, 1, 0, 0, 0, 5].getD i 0) [0, 1, 2, 3, 4, 5, 6, 7, 8, 9] (by kernel_rfl) (by kernel_rfl) (fun _ _ d _ _ h => by cases d <;> first | exact h | exact absurd h (hP _ _ _)) ?_
        (refine TD.val0 (v := ?v44) (by simp only [zA, zB, zC]; rfl) rfl ?hw44 (fun w1 => ?hy44) ?hn44; (case hw44 => rfl); (case hy44 => (go_simp; (try with_reducible rfl))); (try simp only [Act.put, zF, zG, zH]))
        (refine TD.val0 (v := ?v45) (by simp only [zA, zB, zC]; rfl) rfl ?hw45 (fun w1 => ?hy45) ?hn45; (case hw45 => rfl); (case hy45 => (go_simp; (try with_reducible rfl))); (try simp only [Act.put, zF, zG, zH]))
        (refine TD.load (v := ?v46) (p := ?p46) (Mod.refl _ _) (by simp only [zA, zB, zC]; rfl) rfl ?hw46 rfl ?hx46 (fun wq hSq => ?hy46) ?hn46; (case hw46 => rfl); (case hx46 => (simp only [Act.eval, zD, zA, zB, zC, zE]; (try rfl))); (case hy46 => (have kp8q := hSq.at kp8 (fun h => h); have kp4q := hSq.at kp4 (fun h => h); have k14q := hSq.at k14 (fun h => h); go_simp; (try with_reducible rfl))); (try simp only [Act.put, zF, zG, zH]))
        (refine TD.val0 (v := ?v47) (by simp only [zA, zB, zC]; rfl) rfl ?hw47 (fun w1 => ?hy47) ?hn47; (case hw47 => rfl); (case hy47 => (go_simp; (try with_reducible rfl))); (try simp only [Act.put, zF, zG, zH]))
        (refine TD.val0 (v := ?v48) (by simp only [zA, zB, zC]; rfl) rfl ?hw48 (fun w1 => ?hy48) ?hn48; (case hw48 => rfl); (case hy48 => (go_simp; (try with_reducible rfl))); (try simp only [Act.put, zF, zG, zH]))
        (refine TD.load (v := ?v49) (p := ?p49) (Mod.refl _ _) (by simp only [zA, zB, zC]; rfl) rfl ?hw49 rfl ?hx49 (fun wq hSq => ?hy49) ?hn49; (case hw49 => rfl); (case hx49 => (simp only [Act.eval, zD, zA, zB, zC, zE]; (try rfl))); (case hy49 => (have kp8q := hSq.at kp8 (fun h => h); have kp4q := hSq.at kp4 (fun h => h); have k14q := hSq.at k14 (fun h => h); go_simp; (try with_reducible rfl))); (try simp only [Act.put, zF, zG, zH]))
        (refine TD.val0 (v := ?v50) (by simp only [zA, zB, zC]; rfl) rfl ?hw50 (fun w1 => ?hy50) ?hn50; (case hw50 => rfl); (case hy50 => (go_simp; (try with_reducible rfl))); (try simp only [Act.put, zF, zG, zH]))
        (refine TD.val0 (v := ?v51) (by simp only [zA, zB, zC]; rfl) rfl ?hw51 (fun w1 => ?hy51) ?hn51; (case hw51 => rfl); (case hy51 => (go_simp; (try with_reducible rfl))); (try simp only [Act.put, zF, zG, zH]))
        (refine TD.val0 (v := ?v52) (by simp only [zA, zB, zC]; rfl) rfl ?hw52 (fun w1 => ?hy52) ?hn52; (case hw52 => rfl); (case hy52 => (go_simp; (try with_reducible rfl))); (try simp only [Act.put, zF, zG, zH]))
        refine TD.eff (by simp only [zA, zB, zC]; rfl) rfl (fun wE hr => ?_)
        have kp8 := hr.mod.at0 kp8
        have kp4 := hr.mod.at0 kp4
        have k14 := hr.mod.at0 k14
        have mE := hr.mod
        (refine eff_store (X := ?X53) (Y := ?Y53) (w' := ?w53) (by simp only [zA, zB, zC]; rfl) ?hw53 rfl ?hx53 ?hz53 ?hy53 ?hn53; (case hw53 => rfl); (case hx53 => (simp only [Act.eval, zD, zA, zB, zC, zE]; (try rfl))); (case hz53 => (simp only [Act.eval, zD, zA, zB, zC, zE]; (try rfl))); (case hy53 => (go_simp; (try with_reducible rfl))))
        (first | refine TE.nil_set k14 (fun w14 k14 mS => ?_) | refine TE.nil_setCell k14 (fun w14 k14 mS => ?_))
        (try simp only [Array.setIfInBounds, zF, zG, zH] at k14)
        have kp8 := mS.at_ne kp8 (by omega)
        have kp4 := mS.at_ne kp4 (by omega)
        have HP14 := Lib.hid (HP13.out.st8 mE KK14.out q14 (by simp [Bk.all]) (by decide) mS k14)
        clear mE mS k14 KK14 ne14 bb14 hr q14 hu14
        obtain ⟨C15, v15, k15, q15⟩ := HP14.out.sh.fk
        dsimp only at k15
        have KK15 := Lib.hid k15
        have bb15 : p4 < gk := by have h1 := HP14.out.sh.up gk (by simp [Bk.all]); have h2 := HQ.out; omega
        have ne15 : gk ≠ p8 := fun e => by rw [e, kp8] at k15; cases k15
        obtain ⟨u15, hu15⟩ := u8_inc v15
        go_upto_region 15 with fail
        have Lkp8 := lt_size kp8
        have Lkp4 := lt_size kp4
        have Lk15 := lt_size k15
        refine wp_pass (C := fun _ _ _ => False) (κ := fun i => [0, 0, 0, 1, 0, 0, 1, 0, 0, 0, 5].getD i 0) [0, 1, 2, 3, 4, 5, 6, 7, 8, 9, 10] (by kernel_rfl) (by kernel_rfl) (fun _ _ d _ _ h => by cases d <;> first | exact h | exact absurd h (hP _ _ _)) ?_
        (refine TD.val0 (v := ?v54) (by simp only [zA, zB, zC]; rfl) rfl ?hw54 (fun w1 => ?hy54) ?hn54; (case hw54 => rfl); (case hy54 => (go_simp; (try with_reducible rfl))); (try simp only [Act.put, zF, zG, zH]))
        (refine TD.val0 (v := ?v55) (by simp only [zA, zB, zC]; rfl) rfl ?hw55 (fun w1 => ?hy55) ?hn55; (case hw55 => rfl); (case hy55 => (go_simp; (try with_reducible rfl))); (try simp only [Act.put, zF, zG, zH]))
        (refine TD.val0 (v := ?v56) (by simp only [zA, zB, zC]; rfl) rfl ?hw56 (fun w1 => ?hy56) ?hn56; (case hw56 => rfl); (case hy56 => (go_simp; (try with_reducible rfl))); (try simp only [Act.put, zF, zG, zH]))
        (refine TD.load (v := ?v57) (p := ?p57) (Mod.refl _ _) (by simp only [zA, zB, zC]; rfl) rfl ?hw57 rfl ?hx57 (fun wq hSq => ?hy57) ?hn57; (case hw57 => rfl); (case hx57 => (simp only [Act.eval, zD, zA, zB, zC, zE]; (try rfl))); (case hy57 => (have kp8q := hSq.at kp8 (fun h => h); have kp4q := hSq.at kp4 (fun h => h); have k15q := hSq.at k15 (fun h => h); go_simp; (try with_reducible rfl))); (try simp only [Act.put, zF, zG, zH]))
        (refine TD.val0 (v := ?v58) (by simp only [zA, zB, zC]; rfl) rfl ?hw58 (fun w1 => ?hy58) ?hn58; (case hw58 => rfl); (case hy58 => (go_simp; (try with_reducible rfl))); (try simp only [Act.put, zF, zG, zH]))
        (refine TD.val0 (v := ?v59) (by simp only [zA, zB, zC]; rfl) rfl ?hw59 (fun w1 => ?hy59) ?hn59; (case hw59 => rfl); (case hy59 => (go_simp; (try with_reducible rfl))); (try simp only [Act.put, zF, zG, zH]))
        (refine TD.load (v := ?v60) (p := ?p60) (Mod.refl _ _) (by simp only [zA, zB, zC]; rfl) rfl ?hw60 rfl ?hx60 (fun wq hSq => ?hy60) ?hn60; (case hw60 => rfl); (case hx60 => (simp only [Act.eval, zD, zA, zB, zC, zE]; (try rfl))); (case hy60 => (have kp8q := hSq.at kp8 (fun h => h); have kp4q := hSq.at kp4 (fun h => h); have k15q := hSq.at k15 (fun h => h); go_simp; (try with_reducible rfl))); (try simp only [Act.put, zF, zG, zH]))
        (refine TD.val0 (v := ?v61) (by simp only [zA, zB, zC]; rfl) rfl ?hw61 (fun w1 => ?hy61) ?hn61; (case hw61 => rfl); (case hy61 => (go_simp; (try with_reducible rfl))); (try simp only [Act.put, zF, zG, zH]))
        (refine TD.val0 (v := ?v62) (by simp only [zA, zB, zC]; rfl) rfl ?hw62 (fun w1 => ?hy62) ?hn62; (case hw62 => rfl); (case hy62 => (go_simp; (try with_reducible rfl))); (try simp only [Act.put, zF, zG, zH]))
        (refine TD.val0 (v := ?v63) (by simp only [zA, zB, zC]; rfl) rfl ?hw63 (fun w1 => ?hy63) ?hn63; (case hw63 => rfl); (case hy63 => (go_simp; (try with_reducible rfl))); (try simp only [Act.put, zF, zG, zH]))
        refine TD.eff (by simp only [zA, zB, zC]; rfl) rfl (fun wE hr => ?_)
        have kp8 := hr.mod.at0 kp8
        have kp4 := hr.mod.at0 kp4
        have k15 := hr.mod.at0 k15
        have mE := hr.mod
        (refine eff_store (X := ?X64) (Y := ?Y64) (w' := ?w64) (by simp only [zA, zB, zC]; rfl) ?hw64 rfl ?hx64 ?hz64 ?hy64 ?hn64; (case hw64 => rfl); (case hx64 => (simp only [Act.eval, zD, zA, zB, zC, zE]; (try rfl))); (case hz64 => (simp only [Act.eval, zD, zA, zB, zC, zE]; (try rfl))); (case hy64 => (go_simp; (try with_reducible rfl))))
        (first | refine TE.nil_set k15 (fun w15 k15 mS => ?_) | refine TE.nil_setCell k15 (fun w15 k15 mS => ?_))
        (try simp only [Array.setIfInBounds, zF, zG, zH] at k15)
        have kp8 := mS.at_ne kp8 (by omega)
        have kp4 := mS.at_ne kp4 (by omega)
        have HP15 := Lib.hid (HP14.out.st8 mE KK15.out q15 (by simp [Bk.all]) (by decide) mS k15)
        clear mE mS k15 KK15 ne15 bb15 hr q15 hu15
        obtain ⟨C16, v16, k16, q16⟩ := HP15.out.sh.fa
        dsimp only at k16
        obtain ⟨Ci16, vi16, ki16, _, qi16, qj16⟩ := HP15.out.sh.fi
        dsimp only at ki16 qi16 qj16
        have ni16 : gi ≠ ga := fun e => by rw [e, k16] at ki16; cases ki16
        have KK16 := Lib.hid k16
        have bb16 : p4 < ga := by have h1 := HP15.out.sh.up ga (by simp [Bk.all]); have h2 := HQ.out; omega
        have ne16 : ga ≠ p8 := fun e => by rw [e, kp8] at k16; cases k16
        obtain ⟨u16, hu16⟩ := u8_inc v16
        go_upto_region 16 with fail
        have Lkp8 := lt_size kp8
        have Lkp4 := lt_size kp4
        have Lk16 := lt_size k16
        have Lki16 := lt_size ki16
        refine wp_pass0 (C := fun _ _ _ => False) (κ := fun i => [0, 0, 0, 1, 0, 0, 1, 0, 1, 0, 0, 5].getD i 0) [0, 1, 2, 3, 4, 5, 6, 7, 8, 9, 10, 11] (by kernel_rfl) (by kernel_rfl) (fun _ _ d _ _ h => by cases d <;> first | exact h | exact absurd h (hP _ _ _)) ?_
        (refine TD.val0 (v := ?v65) (by simp only [zA, zB, zC]; rfl) rfl ?hw65 (fun w1 => ?hy65) ?hn65; (case hw65 => rfl); (case hy65 => (go_simp; (try with_reducible rfl))); (try simp only [Act.put, zF, zG, zH]))
        (refine TD.val0 (v := ?v66) (by simp only [zA, zB, zC]; rfl) rfl ?hw66 (fun w1 => ?hy66) ?hn66; (case hw66 => rfl); (case hy66 => (go_simp; (try with_reducible rfl))); (try simp only [Act.put, zF, zG, zH]))
        (refine TD.val0 (v := ?v67) (by simp only [zA, zB, zC]; rfl) rfl ?hw67 (fun w1 => ?hy67) ?hn67; (case hw67 => rfl); (case hy67 => (go_simp; (try with_reducible rfl))); (try simp only [Act.put, zF, zG, zH]))
        (refine TD.load (v := ?v68) (p := ?p68) (Mod.refl _ _) (by simp only [zA, zB, zC]; rfl) rfl ?hw68 rfl ?hx68 (fun wq hSq => ?hy68) ?hn68; (case hw68 => rfl); (case hx68 => (simp only [Act.eval, zD, zA, zB, zC, zE]; (try rfl))); (case hy68 => (have kp8q := hSq.at kp8 (fun h => h); have kp4q := hSq.at kp4 (fun h => h); have k16q := hSq.at k16 (fun h => h); have ki16q := hSq.at ki16 (fun h => h); go_simp; (try with_reducible rfl))); (try simp only [Act.put, zF, zG, zH]))
        (refine TD.val0 (v := ?v69) (by simp only [zA, zB, zC]; rfl) rfl ?hw69 (fun w1 => ?hy69) ?hn69; (case hw69 => rfl); (case hy69 => (go_simp; (try with_reducible rfl))); (try simp only [Act.put, zF, zG, zH]))
        (refine TD.val0 (v := ?v70) (by simp only [zA, zB, zC]; rfl) rfl ?hw70 (fun w1 => ?hy70) ?hn70; (case hw70 => rfl); (case hy70 => (go_simp; (try with_reducible rfl))); (try simp only [Act.put, zF, zG, zH]))
        (refine TD.load (v := ?v71) (p := ?p71) (Mod.refl _ _) (by simp only [zA, zB, zC]; rfl) rfl ?hw71 rfl ?hx71 (fun wq hSq => ?hy71) ?hn71; (case hw71 => rfl); (case hx71 => (simp only [Act.eval, zD, zA, zB, zC, zE]; (try rfl))); (case hy71 => (have kp8q := hSq.at kp8 (fun h => h); have kp4q := hSq.at kp4 (fun h => h); have k16q := hSq.at k16 (fun h => h); have ki16q := hSq.at ki16 (fun h => h); go_simp; (try with_reducible rfl))); (try simp only [Act.put, zF, zG, zH]))
        (refine TD.val0 (v := ?v72) (by simp only [zA, zB, zC]; rfl) rfl ?hw72 (fun w1 => ?hy72) ?hn72; (case hw72 => rfl); (case hy72 => (go_simp; (try with_reducible rfl))); (try simp only [Act.put, zF, zG, zH]))
        (refine TD.load (v := ?v73) (p := ?p73) (Mod.refl _ _) (by simp only [zA, zB, zC]; rfl) rfl ?hw73 rfl ?hx73 (fun wq hSq => ?hy73) ?hn73; (case hw73 => rfl); (case hx73 => (simp only [Act.eval, zD, zA, zB, zC, zE]; (try rfl))); (case hy73 => (have kp8q := hSq.at kp8 (fun h => h); have kp4q := hSq.at kp4 (fun h => h); have k16q := hSq.at k16 (fun h => h); have ki16q := hSq.at ki16 (fun h => h); go_simp; (try with_reducible rfl))); (try simp only [Act.put, zF, zG, zH]))
        (refine TD.val0 (v := ?v74) (by simp only [zA, zB, zC]; rfl) rfl ?hw74 (fun w1 => ?hy74) ?hn74; (case hw74 => rfl); (case hy74 => (go_simp; (try with_reducible rfl))); (try simp only [Act.put, zF, zG, zH]))
        (refine TD.val0 (v := ?v75) (by simp only [zA, zB, zC]; rfl) rfl ?hw75 (fun w1 => ?hy75) ?hn75; (case hw75 => rfl); (case hy75 => (go_simp; (try with_reducible rfl))); (try simp only [Act.put, zF, zG, zH]))
        refine TD.eff (by simp only [zA, zB, zC]; rfl) rfl (fun wE hr => ?_)
        have kp8 := hr.mod.at0 kp8
        have kp4 := hr.mod.at0 kp4
        have k16 := hr.mod.at0 k16
        have ki16 := hr.mod.at0 ki16
        have mE := hr.mod
        (refine eff_store (X := ?X76) (Y := ?Y76) (w' := ?w76) (by simp only [zA, zB, zC]; rfl) ?hw76 rfl ?hx76 ?hz76 ?hy76 ?hn76; (case hw76 => rfl); (case hx76 => (simp only [Act.eval, zD, zA, zB, zC, zE]; (try rfl))); (case hz76 => (simp only [Act.eval, zD, zA, zB, zC, zE]; (try rfl))); (case hy76 => (go_simp; (try with_reducible rfl))))
        (first | refine TE.nil_set k16 (fun w16 k16 mS => ?_) | refine TE.nil_setCell k16 (fun w16 k16 mS => ?_))
        (try simp only [Array.setIfInBounds, zF, zG, zH] at k16)
        have kp8 := mS.at_ne kp8 (by omega)
        have kp4 := mS.at_ne kp4 (by omega)
        have ki16 := mS.at_ne ki16 (by omega)
        have HP16 := Lib.hid (HP15.out.st8 mE KK16.out q16 (by simp [Bk.all]) (by decide) mS k16)
        clear mE mS k16 KK16 ne16 bb16 hr q16 hu16 ki16 qi16 qj16 ni16
        obtain ⟨C17, v17, k17, q17⟩ := HP16.out.sh.fd
        dsimp only at k17
        obtain ⟨Ci17, vi17, ki17, _, qi17, qj17⟩ := HP16.out.sh.fi
        dsimp only at ki17 qi17 qj17
        have ni17 : gi ≠ gd := fun e => by rw [e, k17] at ki17; cases ki17
        have KK17 := Lib.hid k17
        have bb17 : p4 < gd := by have h1 := HP16.out.sh.up gd (by simp [Bk.all]); have h2 := HQ.out; omega
        have ne17 : gd ≠ p8 := fun e => by rw [e, kp8] at k17; cases k17
        obtain ⟨u17, hu17⟩ := u8_inc v17
        go_upto_region 17 with fail
        have Lkp8 := lt_size kp8
        have Lkp4 := lt_size kp4
        have Lk17 := lt_size k17
        have Lki17 := lt_size ki17
        refine wp_pass0 (C := fun _ _ _ => False) (κ := fun i => [0, 0, 0, 1, 0, 0, 1, 0, 1, 0, 0, 5].getD i 0) [0, 1, 2, 3, 4, 5, 6, 7, 8, 9, 10, 11] (by kernel_rfl) (by kernel_rfl) (fun _ _ d _ _ h => by cases d <;> first | exact h | exact absurd h (hP _ _ _)) ?_
        (refine TD.val0 (v := ?v77) (by simp only [zA, zB, zC]; rfl) rfl ?hw77 (fun w1 => ?hy77) ?hn77; (case hw77 => rfl); (case hy77 => (go_simp; (try with_reducible rfl))); (try simp only [Act.put, zF, zG, zH]))
        (refine TD.val0 (v := ?v78) (by simp only [zA, zB, zC]; rfl) rfl ?hw78 (fun w1 => ?hy78) ?hn78; (case hw78 => rfl); (case hy78 => (go_simp; (try with_reducible rfl))); (try simp only [Act.put, zF, zG, zH]))
        (refine TD.val0 (v := ?v79) (by simp only [zA, zB, zC]; rfl) rfl ?hw79 (fun w1 => ?hy79) ?hn79; (case hw79 => rfl); (case hy79 => (go_simp; (try with_reducible rfl))); (try simp only [Act.put, zF, zG, zH]))
        (refine TD.load (v := ?v80) (p := ?p80) (Mod.refl _ _) (by simp only [zA, zB, zC]; rfl) rfl ?hw80 rfl ?hx80 (fun wq hSq => ?hy80) ?hn80; (case hw80 => rfl); (case hx80 => (simp only [Act.eval, zD, zA, zB, zC, zE]; (try rfl))); (case hy80 => (have kp8q := hSq.at kp8 (fun h => h); have kp4q := hSq.at kp4 (fun h => h); have k17q := hSq.at k17 (fun h => h); have ki17q := hSq.at ki17 (fun h => h); go_simp; (try with_reducible rfl))); (try simp only [Act.put, zF, zG, zH]))
        (refine TD.val0 (v := ?v81) (by simp only [zA, zB, zC]; rfl) rfl ?hw81 (fun w1 => ?hy81) ?hn81; (case hw81 => rfl); (case hy81 => (go_simp; (try with_reducible rfl))); (try simp only [Act.put, zF, zG, zH]))
        (refine TD.val0 (v := ?v82) (by simp only [zA, zB, zC]; rfl) rfl ?hw82 (fun w1 => ?hy82) ?hn82; (case hw82 => rfl); (case hy82 => (go_simp; (try with_reducible rfl))); (try simp only [Act.put, zF, zG, zH]))
        (refine TD.load (v := ?v83) (p := ?p83) (Mod.refl _ _) (by simp only [zA, zB, zC]; rfl) rfl ?hw83 rfl ?hx83 (fun wq hSq => ?hy83) ?hn83; (case hw83 => rfl); (case hx83 => (simp only [Act.eval, zD, zA, zB, zC, zE]; (try rfl))); (case hy83 => (have kp8q := hSq.at kp8 (fun h => h); have kp4q := hSq.at kp4 (fun h => h); have k17q := hSq.at k17 (fun h => h); have ki17q := hSq.at ki17 (fun h => h); go_simp; (try with_reducible rfl))); (try simp only [Act.put, zF, zG, zH]))
        (refine TD.val0 (v := ?v84) (by simp only [zA, zB, zC]; rfl) rfl ?hw84 (fun w1 => ?hy84) ?hn84; (case hw84 => rfl); (case hy84 => (go_simp; (try with_reducible rfl))); (try simp only [Act.put, zF, zG, zH]))
        (refine TD.load (v := ?v85) (p := ?p85) (Mod.refl _ _) (by simp only [zA, zB, zC]; rfl) rfl ?hw85 rfl ?hx85 (fun wq hSq => ?hy85) ?hn85; (case hw85 => rfl); (case hx85 => (simp only [Act.eval, zD, zA, zB, zC, zE]; (try rfl))); (case hy85 => (have kp8q := hSq.at kp8 (fun h => h); have kp4q := hSq.at kp4 (fun h => h); have k17q := hSq.at k17 (fun h => h); have ki17q := hSq.at ki17 (fun h => h); go_simp; (try with_reducible rfl))); (try simp only [Act.put, zF, zG, zH]))
        (refine TD.val0 (v := ?v86) (by simp only [zA, zB, zC]; rfl) rfl ?hw86 (fun w1 => ?hy86) ?hn86; (case hw86 => rfl); (case hy86 => (go_simp; (try with_reducible rfl))); (try simp only [Act.put, zF, zG, zH]))
        (refine TD.val0 (v := ?v87) (by simp only [zA, zB, zC]; rfl) rfl ?hw87 (fun w1 => ?hy87) ?hn87; (case hw87 => rfl); (case hy87 => (go_simp; (try with_reducible rfl))); (try simp only [Act.put, zF, zG, zH]))
        refine TD.eff (by simp only [zA, zB, zC]; rfl) rfl (fun wE hr => ?_)
        have kp8 := hr.mod.at0 kp8
        have kp4 := hr.mod.at0 kp4
        have k17 := hr.mod.at0 k17
        have ki17 := hr.mod.at0 ki17
        have mE := hr.mod
        (refine eff_store (X := ?X88) (Y := ?Y88) (w' := ?w88) (by simp only [zA, zB, zC]; rfl) ?hw88 rfl ?hx88 ?hz88 ?hy88 ?hn88; (case hw88 => rfl); (case hx88 => (simp only [Act.eval, zD, zA, zB, zC, zE]; (try rfl))); (case hz88 => (simp only [Act.eval, zD, zA, zB, zC, zE]; (try rfl))); (case hy88 => (go_simp; (try with_reducible rfl))))
        (first | refine TE.nil_set k17 (fun w17 k17 mS => ?_) | refine TE.nil_setCell k17 (fun w17 k17 mS => ?_))
        (try simp only [Array.setIfInBounds, zF, zG, zH] at k17)
        have kp8 := mS.at_ne kp8 (by omega)
        have kp4 := mS.at_ne kp4 (by omega)
        have ki17 := mS.at_ne ki17 (by omega)
        have HP17 := Lib.hid (HP16.out.st8 mE KK17.out q17 (by simp [Bk.all]) (by decide) mS k17)
        clear mE mS k17 KK17 ne17 bb17 hr q17 hu17 ki17 qi17 qj17 ni17
        obtain ⟨C18, v18, k18, q18⟩ := HP17.out.sh.fw
        dsimp only at k18
        obtain ⟨Ci18, ki18, qi18, qj18⟩ := HP17.out.sh.fl
        dsimp only at ki18 qi18 qj18
        have ni18 : gl ≠ gw := fun e => by rw [e, k18] at ki18; cases ki18
        have KK18 := Lib.hid k18
        have bb18 : p4 < gw := by have h1 := HP17.out.sh.up gw (by simp [Bk.all]); have h2 := HQ.out; omega
        have ne18 : gw ≠ p8 := fun e => by rw [e, kp8] at k18; cases k18
        obtain ⟨u18, hu18⟩ := u8_inc v18
        go_upto_region 18 with fail
        have Lkp8 := lt_size kp8
        have Lkp4 := lt_size kp4
        have Lk18 := lt_size k18
        have Lki18 := lt_size ki18
        refine wp_pass0 (C := fun _ _ _ => False) (κ := fun i => [0, 0, 0, 1, 0, 0, 1, 0, 1, 0, 0, 5].getD i 0) [0, 1, 2, 3, 4, 5, 6, 7, 8, 9, 10, 11] (by kernel_rfl) (by kernel_rfl) (fun _ _ d _ _ h => by cases d <;> first | exact h | exact absurd h (hP _ _ _)) ?_
        (refine TD.val0 (v := ?v89) (by simp only [zA, zB, zC]; rfl) rfl ?hw89 (fun w1 => ?hy89) ?hn89; (case hw89 => rfl); (case hy89 => (go_simp; (try with_reducible rfl))); (try simp only [Act.put, zF, zG, zH]))
        (refine TD.val0 (v := ?v90) (by simp only [zA, zB, zC]; rfl) rfl ?hw90 (fun w1 => ?hy90) ?hn90; (case hw90 => rfl); (case hy90 => (go_simp; (try with_reducible rfl))); (try simp only [Act.put, zF, zG, zH]))
        (refine TD.val0 (v := ?v91) (by simp only [zA, zB, zC]; rfl) rfl ?hw91 (fun w1 => ?hy91) ?hn91; (case hw91 => rfl); (case hy91 => (go_simp; (try with_reducible rfl))); (try simp only [Act.put, zF, zG, zH]))
        (refine TD.load (v := ?v92) (p := ?p92) (Mod.refl _ _) (by simp only [zA, zB, zC]; rfl) rfl ?hw92 rfl ?hx92 (fun wq hSq => ?hy92) ?hn92; (case hw92 => rfl); (case hx92 => (simp only [Act.eval, zD, zA, zB, zC, zE]; (try rfl))); (case hy92 => (have kp8q := hSq.at kp8 (fun h => h); have kp4q := hSq.at kp4 (fun h => h); have k18q := hSq.at k18 (fun h => h); have ki18q := hSq.at ki18 (fun h => h); go_simp; (try with_reducible rfl))); (try simp only [Act.put, zF, zG, zH]))
        (refine TD.val0 (v := ?v93) (by simp only [zA, zB, zC]; rfl) rfl ?hw93 (fun w1 => ?hy93) ?hn93; (case hw93 => rfl); (case hy93 => (go_simp; (try with_reducible rfl))); (try simp only [Act.put, zF, zG, zH]))
        (refine TD.val0 (v := ?v94) (by simp only [zA, zB, zC]; rfl) rfl ?hw94 (fun w1 => ?hy94) ?hn94; (case hw94 => rfl); (case hy94 => (go_simp; (try with_reducible rfl))); (try simp only [Act.put, zF, zG, zH]))
        (refine TD.load (v := ?v95) (p := ?p95) (Mod.refl _ _) (by simp only [zA, zB, zC]; rfl) rfl ?hw95 rfl ?hx95 (fun wq hSq => ?hy95) ?hn95; (case hw95 => rfl); (case hx95 => (simp only [Act.eval, zD, zA, zB, zC, zE]; (try rfl))); (case hy95 => (have kp8q := hSq.at kp8 (fun h => h); have kp4q := hSq.at kp4 (fun h => h); have k18q := hSq.at k18 (fun h => h); have ki18q := hSq.at ki18 (fun h => h); go_simp; (try with_reducible rfl))); (try simp only [Act.put, zF, zG, zH]))
        (refine TD.val0 (v := ?v96) (by simp only [zA, zB, zC]; rfl) rfl ?hw96 (fun w1 => ?hy96) ?hn96; (case hw96 => rfl); (case hy96 => (go_simp; (try with_reducible rfl))); (try simp only [Act.put, zF, zG, zH]))
        (refine TD.load (v := ?v97) (p := ?p97) (Mod.refl _ _) (by simp only [zA, zB, zC]; rfl) rfl ?hw97 rfl ?hx97 (fun wq hSq => ?hy97) ?hn97; (case hw97 => rfl); (case hx97 => (simp only [Act.eval, zD, zA, zB, zC, zE]; (try rfl))); (case hy97 => (have kp8q := hSq.at kp8 (fun h => h); have kp4q := hSq.at kp4 (fun h => h); have k18q := hSq.at k18 (fun h => h); have ki18q := hSq.at ki18 (fun h => h); go_simp; (try with_reducible rfl))); (try simp only [Act.put, zF, zG, zH]))
        (refine TD.val0 (v := ?v98) (by simp only [zA, zB, zC]; rfl) rfl ?hw98 (fun w1 => ?hy98) ?hn98; (case hw98 => rfl); (case hy98 => (go_simp; (try with_reducible rfl))); (try simp only [Act.put, zF, zG, zH]))
        (refine TD.val0 (v := ?v99) (by simp only [zA, zB, zC]; rfl) rfl ?hw99 (fun w1 => ?hy99) ?hn99; (case hw99 => rfl); (case hy99 => (go_simp; (try with_reducible rfl))); (try simp only [Act.put, zF, zG, zH]))
        refine TD.eff (by simp only [zA, zB, zC]; rfl) rfl (fun wE hr => ?_)
        have kp8 := hr.mod.at0 kp8
        have kp4 := hr.mod.at0 kp4
        have k18 := hr.mod.at0 k18
        have ki18 := hr.mod.at0 ki18
        have mE := hr.mod
        (refine eff_store (X := ?X100) (Y := ?Y100) (w' := ?w100) (by simp only [zA, zB, zC]; rfl) ?hw100 rfl ?hx100 ?hz100 ?hy100 ?hn100; (case hw100 => rfl); (case hx100 => (simp only [Act.eval, zD, zA, zB, zC, zE]; (try rfl))); (case hz100 => (simp only [Act.eval, zD, zA, zB, zC, zE]; (try rfl))); (case hy100 => (go_simp; (try with_reducible rfl))))
        (first | refine TE.nil_set k18 (fun w18 k18 mS => ?_) | refine TE.nil_setCell k18 (fun w18 k18 mS => ?_))
        (try simp only [Array.setIfInBounds, zF, zG, zH] at k18)
        have kp8 := mS.at_ne kp8 (by omega)
        have kp4 := mS.at_ne kp4 (by omega)
        have ki18 := mS.at_ne ki18 (by omega)
        have HP18 := Lib.hid (HP17.out.st8 mE KK18.out q18 (by simp [Bk.all]) (by decide) mS k18)
        clear mE mS k18 KK18 ne18 bb18 hr q18 hu18 ki18 qi18 qj18 ni18
        obtain ⟨C19, v19, k19, q19⟩ := HP18.out.sh.fq
        dsimp only at k19
        obtain ⟨Ci19, ki19, qi19, qj19⟩ := HP18.out.sh.fl
        dsimp only at ki19 qi19 qj19
        have ni19 : gl ≠ gq := fun e => by rw [e, k19] at ki19; cases ki19
        have KK19 := Lib.hid k19
        have bb19 : p4 < gq := by have h1 := HP18.out.sh.up gq (by simp [Bk.all]); have h2 := HQ.out; omega
        have ne19 : gq ≠ p8 := fun e => by rw [e, kp8] at k19; cases k19
        obtain ⟨u19, hu19⟩ := u8_inc v19
        go_upto_region 19 with fail
        have Lkp8 := lt_size kp8
        have Lkp4 := lt_size kp4
        have Lk19 := lt_size k19
        have Lki19 := lt_size ki19
        refine wp_pass0 (C := fun _ _ _ => False) (κ := fun i => [0, 0, 0, 1, 0, 0, 1, 0, 1, 0, 0, 5].getD i 0) [0, 1, 2, 3, 4, 5, 6, 7, 8, 9, 10, 11] (by kernel_rfl) (by kernel_rfl) (fun _ _ d _ _ h => by cases d <;> first | exact h | exact absurd h (hP _ _ _)) ?_
        (refine TD.val0 (v := ?v101) (by simp only [zA, zB, zC]; rfl) rfl ?hw101 (fun w1 => ?hy101) ?hn101; (case hw101 => rfl); (case hy101 => (go_simp; (try with_reducible rfl))); (try simp only [Act.put, zF, zG, zH]))
        (refine TD.val0 (v := ?v102) (by simp only [zA, zB, zC]; rfl) rfl ?hw102 (fun w1 => ?hy102) ?hn102; (case hw102 => rfl); (case hy102 => (go_simp; (try with_reducible rfl))); (try simp only [Act.put, zF, zG, zH]))
        (refine TD.val0 (v := ?v103) (by simp only [zA, zB, zC]; rfl) rfl ?hw103 (fun w1 => ?hy103) ?hn103; (case hw103 => rfl); (case hy103 => (go_simp; (try with_reducible rfl))); (try simp only [Act.put, zF, zG, zH]))
        (refine TD.load (v := ?v104) (p := ?p104) (Mod.refl _ _) (by simp only [zA, zB, zC]; rfl) rfl ?hw104 rfl ?hx104 (fun wq hSq => ?hy104) ?hn104; (case hw104 => rfl); (case hx104 => (simp only [Act.eval, zD, zA, zB, zC, zE]; (try rfl))); (case hy104 => (have kp8q := hSq.at kp8 (fun h => h); have kp4q := hSq.at kp4 (fun h => h); have k19q := hSq.at k19 (fun h => h); have ki19q := hSq.at ki19 (fun h => h); go_simp; (try with_reducible rfl))); (try simp only [Act.put, zF, zG, zH]))
        (refine TD.val0 (v := ?v105) (by simp only [zA, zB, zC]; rfl) rfl ?hw105 (fun w1 => ?hy105) ?hn105; (case hw105 => rfl); (case hy105 => (go_simp; (try with_reducible rfl))); (try simp only [Act.put, zF, zG, zH]))
        (refine TD.val0 (v := ?v106) (by simp only [zA, zB, zC]; rfl) rfl ?hw106 (fun w1 => ?hy106) ?hn106; (case hw106 => rfl); (case hy106 => (go_simp; (try with_reducible rfl))); (try simp only [Act.put, zF, zG, zH]))
        (refine TD.load (v := ?v107) (p := ?p107) (Mod.refl _ _) (by simp only [zA, zB, zC]; rfl) rfl ?hw107 rfl ?hx107 (fun wq hSq => ?hy107) ?hn107; (case hw107 => rfl); (case hx107 => (simp only [Act.eval, zD, zA, zB, zC, zE]; (try rfl))); (case hy107 => (have kp8q := hSq.at kp8 (fun h => h); have kp4q := hSq.at kp4 (fun h => h); have k19q := hSq.at k19 (fun h => h); have ki19q := hSq.at ki19 (fun h => h); go_simp; (try with_reducible rfl))); (try simp only [Act.put, zF, zG, zH]))
        (refine TD.val0 (v := ?v108) (by simp only [zA, zB, zC]; rfl) rfl ?hw108 (fun w1 => ?hy108) ?hn108; (case hw108 => rfl); (case hy108 => (go_simp; (try with_reducible rfl))); (try simp only [Act.put, zF, zG, zH]))
        (refine TD.load (v := ?v109) (p := ?p109) (Mod.refl _ _) (by simp only [zA, zB, zC]; rfl) rfl ?hw109 rfl ?hx109 (fun wq hSq => ?hy109) ?hn109; (case hw109 => rfl); (case hx109 => (simp only [Act.eval, zD, zA, zB, zC, zE]; (try rfl))); (case hy109 => (have kp8q := hSq.at kp8 (fun h => h); have kp4q := hSq.at kp4 (fun h => h); have k19q := hSq.at k19 (fun h => h); have ki19q := hSq.at ki19 (fun h => h); go_simp; (try with_reducible rfl))); (try simp only [Act.put, zF, zG, zH]))
        (refine TD.val0 (v := ?v110) (by simp only [zA, zB, zC]; rfl) rfl ?hw110 (fun w1 => ?hy110) ?hn110; (case hw110 => rfl); (case hy110 => (go_simp; (try with_reducible rfl))); (try simp only [Act.put, zF, zG, zH]))
        (refine TD.val0 (v := ?v111) (by simp only [zA, zB, zC]; rfl) rfl ?hw111 (fun w1 => ?hy111) ?hn111; (case hw111 => rfl); (case hy111 => (go_simp; (try with_reducible rfl))); (try simp only [Act.put, zF, zG, zH]))
        refine TD.eff (by simp only [zA, zB, zC]; rfl) rfl (fun wE hr => ?_)
        have kp8 := hr.mod.at0 kp8
        have kp4 := hr.mod.at0 kp4
        have k19 := hr.mod.at0 k19
        have ki19 := hr.mod.at0 ki19
        have mE := hr.mod
        (refine eff_store (X := ?X112) (Y := ?Y112) (w' := ?w112) (by simp only [zA, zB, zC]; rfl) ?hw112 rfl ?hx112 ?hz112 ?hy112 ?hn112; (case hw112 => rfl); (case hx112 => (simp only [Act.eval, zD, zA, zB, zC, zE]; (try rfl))); (case hz112 => (simp only [Act.eval, zD, zA, zB, zC, zE]; (try rfl))); (case hy112 => (go_simp; (try with_reducible rfl))))
        (first | refine TE.nil_set k19 (fun w19 k19 mS => ?_) | refine TE.nil_setCell k19 (fun w19 k19 mS => ?_))
        (try simp only [Array.setIfInBounds, zF, zG, zH] at k19)
        have kp8 := mS.at_ne kp8 (by omega)
        have kp4 := mS.at_ne kp4 (by omega)
        have ki19 := mS.at_ne ki19 (by omega)
        have HP19 := Lib.hid (HP18.out.st8 mE KK19.out q19 (by simp [Bk.all]) (by decide) mS k19)
        clear mE mS k19 KK19 ne19 bb19 hr q19 hu19 ki19 qi19 qj19 ni19
        obtain ⟨C20, v20, k20, q20, _, _⟩ := HP19.out.sh.fi
        dsimp only at k20
        have KK20 := Lib.hid k20
        have bb20 : p4 < gi := by have h1 := HP19.out.sh.up gi (by simp [Bk.all]); have h2 := HQ.out; omega
        have ne20 : gi ≠ p8 := fun e => by rw [e, kp8] at k20; cases k20
        obtain ⟨u20, hu20⟩ := u8_inc v20
        go_upto_region 20 with fail
        have Lkp8 := lt_size kp8
        have Lkp4 := lt_size kp4
        have Lk20 := lt_size k20
        refine wp_pass0 (C := fun _ _ _ => False) (κ := fun i => [0, 0, 0, 1, 0, 0, 1, 0, 0, 0, 5].getD i 0) [0, 1, 2, 3, 4, 5, 6, 7, 8, 9, 10] (by kernel_rfl) (by kernel_rfl) (fun _ _ d _ _ h => by cases d <;> first | exact h | exact absurd h (hP _ _ _)) ?_
        (refine TD.val0 (v := ?v113) (by simp only [zA, zB, zC]; rfl) rfl ?hw113 (fun w1 => ?hy113) ?hn113; (case hw113 => rfl); (case hy113 => (go_simp; (try with_reducible rfl))); (try simp only [Act.put, zF, zG, zH]))
        (refine TD.val0 (v := ?v114) (by simp only [zA, zB, zC]; rfl) rfl ?hw114 (fun w1 => ?hy114) ?hn114; (case hw114 => rfl); (case hy114 => (go_simp; (try with_reducible rfl))); (try simp only [Act.put, zF, zG, zH]))
        (refine TD.val0 (v := ?v115) (by simp only [zA, zB, zC]; rfl) rfl ?hw115 (fun w1 => ?hy115) ?hn115; (case hw115 => rfl); (case hy115 => (go_simp; (try with_reducible rfl))); (try simp only [Act.put, zF, zG, zH]))
        (refine TD.load (v := ?v116) (p := ?p116) (Mod.refl _ _) (by simp only [zA, zB, zC]; rfl) rfl ?hw116 rfl ?hx116 (fun wq hSq => ?hy116) ?hn116; (case hw116 => rfl); (case hx116 => (simp only [Act.eval, zD, zA, zB, zC, zE]; (try rfl))); (case hy116 => (have kp8q := hSq.at kp8 (fun h => h); have kp4q := hSq.at kp4 (fun h => h); have k20q := hSq.at k20 (fun h => h); go_simp; (try with_reducible rfl))); (try simp only [Act.put, zF, zG, zH]))
        (refine TD.val0 (v := ?v117) (by simp only [zA, zB, zC]; rfl) rfl ?hw117 (fun w1 => ?hy117) ?hn117; (case hw117 => rfl); (case hy117 => (go_simp; (try with_reducible rfl))); (try simp only [Act.put, zF, zG, zH]))
        (refine TD.val0 (v := ?v118) (by simp only [zA, zB, zC]; rfl) rfl ?hw118 (fun w1 => ?hy118) ?hn118; (case hw118 => rfl); (case hy118 => (go_simp; (try with_reducible rfl))); (try simp only [Act.put, zF, zG, zH]))
        (refine TD.load (v := ?v119) (p := ?p119) (Mod.refl _ _) (by simp only [zA, zB, zC]; rfl) rfl ?hw119 rfl ?hx119 (fun wq hSq => ?hy119) ?hn119; (case hw119 => rfl); (case hx119 => (simp only [Act.eval, zD, zA, zB, zC, zE]; (try rfl))); (case hy119 => (have kp8q := hSq.at kp8 (fun h => h); have kp4q := hSq.at kp4 (fun h => h); have k20q := hSq.at k20 (fun h => h); go_simp; (try with_reducible rfl))); (try simp only [Act.put, zF, zG, zH]))
        (refine TD.val0 (v := ?v120) (by simp only [zA, zB, zC]; rfl) rfl ?hw120 (fun w1 => ?hy120) ?hn120; (case hw120 => rfl); (case hy120 => (go_simp; (try with_reducible rfl))); (try simp only [Act.put, zF, zG, zH]))
        (refine TD.val0 (v := ?v121) (by simp only [zA, zB, zC]; rfl) rfl ?hw121 (fun w1 => ?hy121) ?hn121; (case hw121 => rfl); (case hy121 => (go_simp; (try with_reducible rfl))); (try simp only [Act.put, zF, zG, zH]))
        (refine TD.val0 (v := ?v122) (by simp only [zA, zB, zC]; rfl) rfl ?hw122 (fun w1 => ?hy122) ?hn122; (case hw122 => rfl); (case hy122 => (go_simp; (try with_reducible rfl))); (try simp only [Act.put, zF, zG, zH]))
        refine TD.eff (by simp only [zA, zB, zC]; rfl) rfl (fun wE hr => ?_)
        have kp8 := hr.mod.at0 kp8
        have kp4 := hr.mod.at0 kp4
        have k20 := hr.mod.at0 k20
        have mE := hr.mod
        (refine eff_store (X := ?X123) (Y := ?Y123) (w' := ?w123) (by simp only [zA, zB, zC]; rfl) ?hw123 rfl ?hx123 ?hz123 ?hy123 ?hn123; (case hw123 => rfl); (case hx123 => (simp only [Act.eval, zD, zA, zB, zC, zE]; (try rfl))); (case hz123 => (simp only [Act.eval, zD, zA, zB, zC, zE]; (try rfl))); (case hy123 => (go_simp; (try with_reducible rfl))))
        (first | refine TE.nil_set k20 (fun w20 k20 mS => ?_) | refine TE.nil_setCell k20 (fun w20 k20 mS => ?_))
        (try simp only [Array.setIfInBounds, zF, zG, zH] at k20)
        have kp8 := mS.at_ne kp8 (by omega)
        have kp4 := mS.at_ne kp4 (by omega)
        have HP20 := Lib.hid (HP19.out.stI mE KK20.out q20 mS k20)
        clear mE mS k20 KK20 ne20 bb20 hr q20 hu20
        have HP20' := HP20
        clear HP HP12 HP13 HP14 HP15 HP16 HP17 HP18 HP19 hR0 hR1 hR6 hR39 hR40 hR41
        obtain ⟨bs, hbs⟩ : ∃ q, q = w20.heap.size := ⟨_, rfl⟩
        go_upto_region 21 with fail
        as_aux_lemma =>
          have Lkp8 := lt_size kp8
          have Lkp4 := lt_size kp4
          refine wp_gpass0 (T0 := fun _ => False) (K := fun _ _ => True) (κ := fun i => [0, 0, 6, 0, 0, 0, 3, 4, 0].getD i 0) (υ := fun i => [[], [], [], [], [], [], [], [], []].getD i []) [0, 1, 2, 3, 4, 5, 6, 7, 8] (by kernel_rfl) (by kernel_rfl) (Good.true).cl (trivial) (fun _ h => h.elim) ?_
          have gK := Good.true
          (refine TG.v0 (v := ?v124) (by simp only [zA, zB, zC]; rfl) rfl ?hw124 (fun w1 => ?hy124) ?hn124; (case hw124 => rfl); (case hy124 => (go_simp; (try with_reducible rfl))); (try simp only [Act.put, zF, zG, zH]))
          (refine TG.v0 (v := ?v125) (by simp only [zA, zB, zC]; rfl) rfl ?hw125 (fun w1 => ?hy125) ?hn125; (case hw125 => rfl); (case hy125 => (go_simp; (try with_reducible rfl))); (try simp only [Act.put, zF, zG, zH]))
          (refine TG.callM (f := ?f126) (args := ?r126) (FdL bs ⟨7, rC b k d, 0, false⟩) (goodFd bs ⟨7, rC b k d, 0, false⟩) gK (by simp only [zA, zB, zC]; rfl) rfl ?hw126 (fun w1 => ?hy126) (fun T wq kq ltq hSq ub => ?hsp126) ?hn126; (case hw126 => rfl); (case hy126 => (go_simp; (first | with_reducible rfl | (constructor <;> with_reducible rfl)))); (case hsp126 => (have kp8q := hSq.at kp8 (by intro hT; first | exact hT | exact absurd hT (by assumption) | omega | (simp only at hT; omega)); have kp4q := hSq.at kp4 (by intro hT; first | exact hT | exact absurd hT (by assumption) | omega | (simp only at hT; omega)); exact findL (HP20.out.mod0 hSq).ls.bh HS6.out (by rw [hbs]; exact hSq.size) T)); rintro v126 ⟨wI, TI, hI⟩; replace gK := gK.and ((goodFd bs ⟨7, rC b k d, 0, false⟩) v126); (obtain ⟨_, z0, rfl, _⟩ := hI.k); (try clear hI TI wI); (try simp only [Act.put, zF, zG, zH]))
          (refine TG.v0 (v := ?v127) (by simp only [zA, zB, zC]; rfl) rfl ?hw127 (fun w1 => ?hy127) ?hn127; (case hw127 => rfl); (case hy127 => (go_simp; (try with_reducible rfl))); (try simp only [Act.put, zF, zG, zH]))
          (refine TG.v0 (v := ?v128) (by simp only [zA, zB, zC]; rfl) rfl ?hw128 (fun w1 => ?hy128) ?hn128; (case hw128 => rfl); (case hy128 => (go_simp; (try with_reducible rfl))); (try simp only [Act.put, zF, zG, zH]))
          (refine TG.v0 (v := ?v129) (by simp only [zA, zB, zC]; rfl) rfl ?hw129 (fun w1 => ?hy129) ?hn129; (case hw129 => rfl); (case hy129 => (go_simp; (try with_reducible rfl))); (try simp only [Act.put, zF, zG, zH]))
          (refine TG.allocB (by simp only [zA, zB, zC]; rfl) rfl ?hw130 rfl rfl alItem (fun p15 hp15 _ => ?hn130); (case hw130 => rfl); (try simp only [Act.put, zF, zG, zH]))
          (refine TG.storeB (d := ?d131) (T := ?T131) (y := ?y131) (p := ?p131) (b := ?b131) (v := ?v131) (by simp only [zA, zB, zC]; rfl) rfl ?hw131 ?hd131 ?hop131 ?hev131 ?hx131 ?hb131 ?htag131 (fun w1 hb1 => ?hy131) ?hn131; (case hw131 => rfl); (case hd131 => rfl); (case hop131 => rfl); (case hev131 => (simp only [Act.eval, zD, zA, zB, zC, zE]; (try rfl))); (case hx131 => (simp only [Act.eval, zD, zA, zB, zC, zE]; (try rfl))); (case hb131 => first | exact Bx.set_same _ _ _ | (simp only [Bx.set_same]; rfl)); (case htag131 => rfl); (case hy131 => (go_simp; (try first | with_reducible rfl | (rw [setCell_blk hb1]; rfl)))); (try simp only [Act.put, zF, zG, zH]))
          (refine TG.v0 (v := ?v132) (by simp only [zA, zB, zC]; rfl) rfl ?hw132 (fun w1 => ?hy132) ?hn132; (case hw132 => rfl); (case hy132 => (go_simp; (try with_reducible rfl))); (try simp only [Act.put, zF, zG, zH]))
          refine TG.nil (fun w21 ⟨TR, hr⟩ => ?_)
          have kp8 := hr.mod.at kp8 (by intro hT; first | exact hT | exact absurd hT (by assumption) | omega | (simp only at hT; omega))
          have kp4 := hr.mod.at kp4 (by intro hT; first | exact hT | exact absurd hT (by assumption) | omega | (simp only at hT; omega))
          have kp15 := hr.box p15 _ (by first | exact Bx.set_same _ _ _ | (simp only [Bx.set_same]; rfl)); dsimp only [Value.cells] at kp15; obtain ⟨gp15, nTp15, kp15⟩ := kp15
          clear gK
          obtain ⟨_, ⟨zn, zr, zpl, zs⟩, e1, hc1, hn1, hi1⟩ := hr.k
          have e2 : itr z0 = itr ⟨zn, zr, zpl, zs⟩ := by
            injection e1 with e1
            have e3 := congrArg (fun x : Array Value => x[0]?) e1
            simpa using e3
          rw [e2] at kp15
          have hcr : zr.con = rC b k d := congrArg It.r hc1
          obtain ⟨K2, hK2, hsx⟩ := shape_of hn1 hcr HZ.out.1 HZ.out.2
          subst hK2
          rw [HN.out.2] at hsx
          obtain ⟨Y, M, hY, hY51, hYM, hM39, hMo, hYr, hY1, hY2, hY42, hM4, hM37, hM38⟩ := itK_rows zn b k d K2 zpl zs
          rw [← hY] at kp15
          rw [HN.out.1] at hY1
          have HM21 := Lib.hid hr.mod
          have HP21 := Lib.hid (HP20.out.mod0 hr.mod)
          have HSX := Lib.hid hsx
          have HB := Lib.hid (And.intro hbs (And.intro hY (And.intro hYr (And.intro hY51 hM39))))
          have HYM := Lib.hid (And.intro hY1 (And.intro hY2 (And.intro hY42 (And.intro hM4 (And.intro hM37 hM38)))))
          clear hr e1 e2 hc1 hn1 hi1 hcr hsx hY hYr hY1 hY2 hY42 hM4 hM37 hM38 hbs HP20'
          go_upto_region 22 with fail
          have Lkp15 := lt_size kp15
          have Lkp8 := lt_size kp8
          have Lkp4 := lt_size kp4
          refine wp_pass0 (C := fun _ _ _ => False) (κ := fun i => [0, 0, 0, 1, 3, 4].getD i 0) [0, 1, 2, 3, 4, 5] (by kernel_rfl) (by kernel_rfl) (fun _ _ d _ _ h => by cases d <;> first | exact h | exact absurd h (hP _ _ _)) ?_
          (refine TD.val0 (v := ?v133) (by simp only [zA, zB, zC]; rfl) rfl ?hw133 (fun w1 => ?hy133) ?hn133; (case hw133 => rfl); (case hy133 => (go_simp; (try with_reducible rfl))); (try simp only [Act.put, zF, zG, zH]))
          (refine TD.val0 (v := ?v134) (by simp only [zA, zB, zC]; rfl) rfl ?hw134 (fun w1 => ?hy134) ?hn134; (case hw134 => rfl); (case hy134 => (go_simp; (try with_reducible rfl))); (try simp only [Act.put, zF, zG, zH]))
          (refine TD.val0 (v := ?v135) (by simp only [zA, zB, zC]; rfl) rfl ?hw135 (fun w1 => ?hy135) ?hn135; (case hw135 => rfl); (case hy135 => (go_simp; (try with_reducible rfl))); (try simp only [Act.put, zF, zG, zH]))
          (refine TD.load (v := ?v136) (p := ?p136) (Mod.refl _ _) (by simp only [zA, zB, zC]; rfl) rfl ?hw136 rfl ?hx136 (fun wq hSq => ?hy136) ?hn136; (case hw136 => rfl); (case hx136 => (simp only [Act.eval, zD, zA, zB, zC, zE]; (try rfl))); (case hy136 => (have kp15q := hSq.at kp15 (fun h => h); have kp8q := hSq.at kp8 (fun h => h); have kp4q := hSq.at kp4 (fun h => h); go_simp; (try with_reducible rfl))); (try simp only [Act.put, zF, zG, zH]))
          (refine TD.allocB (by simp only [zA, zB, zC]; rfl) rfl ?hw137 rfl rfl alMsg (fun p17 hp17 => ?hn137); (case hw137 => rfl); (try simp only [Act.put, zF, zG, zH]))
          (refine TD.storeB (d := ?d138) (T := ?T138) (y := ?y138) (p := ?p138) (b := ?b138) (v := ?v138) (by simp only [zA, zB, zC]; rfl) rfl ?hw138 ?hd138 ?hop138 ?hev138 ?hx138 ?hb138 ?htag138 (fun w1 hb1 => ?hy138) ?hn138; (case hw138 => rfl); (case hd138 => rfl); (case hop138 => rfl); (case hev138 => (simp only [Act.eval, zD, zA, zB, zC, zE]; (try rfl))); (case hx138 => (simp only [Act.eval, zD, zA, zB, zC, zE]; (try rfl))); (case hb138 => first | exact Bx.set_same _ _ _ | (simp only [Bx.set_same]; rfl)); (case hy138 => (go_simp; (try first | with_reducible rfl | (rw [setCell_blk hb1]; rfl)))); (try simp only [Act.put, zF, zG, zH]))
          refine TD.nil (fun w22 hr => ?_)
          have kp15 := hr.mod.at kp15 (fun h => h)
          have kp8 := hr.mod.at kp8 (fun h => h)
          have kp4 := hr.mod.at kp4 (fun h => h)
          have kp17 := hr.box p17 _ (by first | exact Bx.set_same _ _ _ | (simp only [Bx.set_same]; rfl)); dsimp only [Value.cells] at kp17; obtain ⟨gp17, kp17⟩ := kp17
          have m22 := hr.mod
          have HM22 := Lib.hid m22
          obtain ⟨Cb, kb, qb⟩ := HSX.out.fb
          obtain ⟨Cr, kr, xr, sr⟩ := HSX.out.fr
          obtain ⟨Cs, ks, xs, ss⟩ := HSX.out.fs
          obtain ⟨Ck, kk, xk, sk⟩ := HSX.out.fk
          replace kb := m22.at0 kb
          replace kr := m22.at0 kr
          replace ks := m22.at0 ks
          replace kk := m22.at0 kk
          have kB := (HP21.out.ls.m.then0 m22).at0 HBD.out.1.1
          have qB := HBD.out.1.2
          have HMo := Lib.hid (And.intro hYM hMo)
          obtain ⟨hY1, hY2, hY42, hM4, hM37, hM38⟩ := HYM.out
          clear hr m22 hY51 hM39 hYM hMo
          go_upto_region 23 with fail
          as_aux_lemma =>
            have Lkp15 := lt_size kp15
            have Lkp17 := lt_size kp17
            have Lkp8 := lt_size kp8
            have Lkp4 := lt_size kp4
            have Lkb := lt_size kb
            have Lkr := lt_size kr
            have Lks := lt_size ks
            have Lkk := lt_size kk
            have LkB := lt_size kB
            refine wp_pass (C := fun _ _ _ => False) (κ := fun i => [0, 0, 0, 0, 0, 1, 0, 0, 0, 0, 0, 0, 0, 0, 1, 0, 1, 0, 0, 1, 0, 0, 0, 0, 0, 1, 0, 0, 0, 0, 0, 0, 1, 0, 1, 1, 0, 0, 0, 0, 0, 0, 0, 1, 0, 0, 0, 0, 0, 0, 0, 1, 0, 1, 0, 0, 0, 0, 0, 1, 0, 0, 0, 0, 0, 1, 0, 1, 1, 0, 0].getD i 0) [0, 1, 2, 3, 4, 5, 6, 7, 8, 9, 10, 11, 12, 13, 14, 15, 16, 17, 18, 19, 20, 21, 22, 23, 24, 25, 26, 27, 28, 29, 30, 31, 32, 33, 34, 35, 36, 37, 38, 39, 40, 41, 42, 43, 44, 45, 46, 47, 48, 49, 50, 51, 52, 53, 54, 55, 56, 57, 58, 59, 60, 61, 62, 63, 64, 65, 66, 67, 68, 69, 70] (by kernel_rfl) (by kernel_rfl) (fun _ _ d _ _ h => by cases d <;> first | exact h | exact absurd h (hP _ _ _)) ?_
            (refine TD.val0 (v := ?v139) (by simp only [zA, zB, zC]; rfl) rfl ?hw139 (fun w1 => ?hy139) ?hn139; (case hw139 => rfl); (case hy139 => (go_simp; (try with_reducible rfl))); (try simp only [Act.put, zF, zG, zH]))
            (refine TD.val0 (v := ?v140) (by simp only [zA, zB, zC]; rfl) rfl ?hw140 (fun w1 => ?hy140) ?hn140; (case hw140 => rfl); (case hy140 => (go_simp; (try with_reducible rfl))); (try simp only [Act.put, zF, zG, zH]))
            (refine TD.val0 (v := ?v141) (by simp only [zA, zB, zC]; rfl) rfl ?hw141 (fun w1 => ?hy141) ?hn141; (case hw141 => rfl); (case hy141 => (go_simp; (try with_reducible rfl))); (try simp only [Act.put, zF, zG, zH]))
            (refine TD.val0 (v := ?v142) (by simp only [zA, zB, zC]; rfl) rfl ?hw142 (fun w1 => ?hy142) ?hn142; (case hw142 => rfl); (case hy142 => (go_simp; (try with_reducible rfl))); (try simp only [Act.put, zF, zG, zH]))
            (refine TD.val0 (v := ?v143) (by simp only [zA, zB, zC]; rfl) rfl ?hw143 (fun w1 => ?hy143) ?hn143; (case hw143 => rfl); (case hy143 => (go_simp; (try with_reducible rfl))); (try simp only [Act.put, zF, zG, zH]))
            (refine TD.load (v := ?v144) (p := ?p144) (Mod.refl _ _) (by simp only [zA, zB, zC]; rfl) rfl ?hw144 rfl ?hx144 (fun wq hSq => ?hy144) ?hn144; (case hw144 => rfl); (case hx144 => (simp only [Act.eval, zD, zA, zB, zC, zE]; (try rfl))); (case hy144 => (have kp15q := hSq.at kp15 (fun h => h); have kp17q := hSq.at kp17 (fun h => h); have kp8q := hSq.at kp8 (fun h => h); have kp4q := hSq.at kp4 (fun h => h); have kbq := hSq.at kb (fun h => h); have krq := hSq.at kr (fun h => h); have ksq := hSq.at ks (fun h => h); have kkq := hSq.at kk (fun h => h); have kBq := hSq.at kB (fun h => h); go_simp; (try with_reducible rfl))); (try simp only [Act.put, zF, zG, zH]))
            (refine TD.val0 (v := ?v145) (by simp only [zA, zB, zC]; rfl) rfl ?hw145 (fun w1 => ?hy145) ?hn145; (case hw145 => rfl); (case hy145 => (go_simp; (try with_reducible rfl))); (try simp only [Act.put, zF, zG, zH]))
            (refine TD.val0 (v := ?v146) (by simp only [zA, zB, zC]; rfl) rfl ?hw146 (fun w1 => ?hy146) ?hn146; (case hw146 => rfl); (case hy146 => (go_simp; (try with_reducible rfl))); (try simp only [Act.put, zF, zG, zH]))
            (refine TD.val0 (v := ?v147) (by simp only [zA, zB, zC]; rfl) rfl ?hw147 (fun w1 => ?hy147) ?hn147; (case hw147 => rfl); (case hy147 => (go_simp; (try with_reducible rfl))); (try simp only [Act.put, zF, zG, zH]))
            (refine TD.val0 (v := ?v148) (by simp only [zA, zB, zC]; rfl) rfl ?hw148 (fun w1 => ?hy148) ?hn148; (case hw148 => rfl); (case hy148 => (go_simp; (try with_reducible rfl))); (try simp only [Act.put, zF, zG, zH]))
            (refine TD.val0 (v := ?v149) (by simp only [zA, zB, zC]; rfl) rfl ?hw149 (fun w1 => ?hy149) ?hn149; (case hw149 => rfl); (case hy149 => (go_simp; (try with_reducible rfl))); (try simp only [Act.put, zF, zG, zH]))
            (refine TD.val0 (v := ?v150) (by simp only [zA, zB, zC]; rfl) rfl ?hw150 (fun w1 => ?hy150) ?hn150; (case hw150 => rfl); (case hy150 => (go_simp; (try with_reducible rfl))); (try simp only [Act.put, zF, zG, zH]))
            (refine TD.val0 (v := ?v151) (by simp only [zA, zB, zC]; rfl) rfl ?hw151 (fun w1 => ?hy151) ?hn151; (case hw151 => rfl); (case hy151 => (go_simp; (try with_reducible rfl))); (try simp only [Act.put, zF, zG, zH]))
            (refine TD.val0 (v := ?v152) (by simp only [zA, zB, zC]; rfl) rfl ?hw152 (fun w1 => ?hy152) ?hn152; (case hw152 => rfl); (case hy152 => (go_simp; (try with_reducible rfl))); (try simp only [Act.put, zF, zG, zH]))
            (refine TD.load (v := ?v153) (p := ?p153) (Mod.refl _ _) (by simp only [zA, zB, zC]; rfl) rfl ?hw153 rfl ?hx153 (fun wq hSq => ?hy153) ?hn153; (case hw153 => rfl); (case hx153 => (simp only [Act.eval, zD, zA, zB, zC, zE]; (try rfl))); (case hy153 => (have kp15q := hSq.at kp15 (fun h => h); have kp17q := hSq.at kp17 (fun h => h); have kp8q := hSq.at kp8 (fun h => h); have kp4q := hSq.at kp4 (fun h => h); have kbq := hSq.at kb (fun h => h); have krq := hSq.at kr (fun h => h); have ksq := hSq.at ks (fun h => h); have kkq := hSq.at kk (fun h => h); have kBq := hSq.at kB (fun h => h); go_simp; (try with_reducible rfl))); (try simp only [Act.put, zF, zG, zH]))
            (refine TD.val0 (v := ?v154) (by simp only [zA, zB, zC]; rfl) rfl ?hw154 (fun w1 => ?hy154) ?hn154; (case hw154 => rfl); (case hy154 => (go_simp; (try with_reducible rfl))); (try simp only [Act.put, zF, zG, zH]))
            (refine TD.load (v := ?v155) (p := ?p155) (Mod.refl _ _) (by simp only [zA, zB, zC]; rfl) rfl ?hw155 rfl ?hx155 (fun wq hSq => ?hy155) ?hn155; (case hw155 => rfl); (case hx155 => (simp only [Act.eval, zD, zA, zB, zC, zE]; (try rfl))); (case hy155 => (have kp15q := hSq.at kp15 (fun h => h); have kp17q := hSq.at kp17 (fun h => h); have kp8q := hSq.at kp8 (fun h => h); have kp4q := hSq.at kp4 (fun h => h); have kbq := hSq.at kb (fun h => h); have krq := hSq.at kr (fun h => h); have ksq := hSq.at ks (fun h => h); have kkq := hSq.at kk (fun h => h); have kBq := hSq.at kB (fun h => h); go_simp; (try with_reducible rfl))); (try simp only [Act.put, zF, zG, zH]))
            (refine TD.val0 (v := ?v156) (by simp only [zA, zB, zC]; rfl) rfl ?hw156 (fun w1 => ?hy156) ?hn156; (case hw156 => rfl); (case hy156 => (go_simp; (try with_reducible rfl))); (try simp only [Act.put, zF, zG, zH]))
            (refine TD.val0 (v := ?v157) (by simp only [zA, zB, zC]; rfl) rfl ?hw157 (fun w1 => ?hy157) ?hn157; (case hw157 => rfl); (case hy157 => (go_simp; (try with_reducible rfl))); (try simp only [Act.put, zF, zG, zH]))
            (refine TD.load (v := ?v158) (p := ?p158) (Mod.refl _ _) (by simp only [zA, zB, zC]; rfl) rfl ?hw158 rfl ?hx158 (fun wq hSq => ?hy158) ?hn158; (case hw158 => rfl); (case hx158 => (simp only [Act.eval, zD, zA, zB, zC, zE]; (try rfl))); (case hy158 => (have kp15q := hSq.at kp15 (fun h => h); have kp17q := hSq.at kp17 (fun h => h); have kp8q := hSq.at kp8 (fun h => h); have kp4q := hSq.at kp4 (fun h => h); have kbq := hSq.at kb (fun h => h); have krq := hSq.at kr (fun h => h); have ksq := hSq.at ks (fun h => h); have kkq := hSq.at kk (fun h => h); have kBq := hSq.at kB (fun h => h); go_simp; (try with_reducible rfl))); (try simp only [Act.put, zF, zG, zH]))
            (refine TD.val0 (v := ?v159) (by simp only [zA, zB, zC]; rfl) rfl ?hw159 (fun w1 => ?hy159) ?hn159; (case hw159 => rfl); (case hy159 => (go_simp; (try with_reducible rfl))); (try simp only [Act.put, zF, zG, zH]))
            (refine TD.val0 (v := ?v160) (by simp only [zA, zB, zC]; rfl) rfl ?hw160 (fun w1 => ?hy160) ?hn160; (case hw160 => rfl); (case hy160 => (go_simp; (try with_reducible rfl))); (try simp only [Act.put, zF, zG, zH]))
            (refine TD.val0 (v := ?v161) (by simp only [zA, zB, zC]; rfl) rfl ?hw161 (fun w1 => ?hy161) ?hn161; (case hw161 => rfl); (case hy161 => (go_simp; (try with_reducible rfl))); (try simp only [Act.put, zF, zG, zH]))
            (refine TD.val0 (v := ?v162) (by simp only [zA, zB, zC]; rfl) rfl ?hw162 (fun w1 => ?hy162) ?hn162; (case hw162 => rfl); (case hy162 => (go_simp; (try with_reducible rfl))); (try simp only [Act.put, zF, zG, zH]))
            (refine TD.val0 (v := ?v163) (by simp only [zA, zB, zC]; rfl) rfl ?hw163 (fun w1 => ?hy163) ?hn163; (case hw163 => rfl); (case hy163 => (go_simp; (try with_reducible rfl))); (try simp only [Act.put, zF, zG, zH]))
            (refine TD.load (v := ?v164) (p := ?p164) (Mod.refl _ _) (by simp only [zA, zB, zC]; rfl) rfl ?hw164 rfl ?hx164 (fun wq hSq => ?hy164) ?hn164; (case hw164 => rfl); (case hx164 => (simp only [Act.eval, zD, zA, zB, zC, zE]; (try rfl))); (case hy164 => (have kp15q := hSq.at kp15 (fun h => h); have kp17q := hSq.at kp17 (fun h => h); have kp8q := hSq.at kp8 (fun h => h); have kp4q := hSq.at kp4 (fun h => h); have kbq := hSq.at kb (fun h => h); have krq := hSq.at kr (fun h => h); have ksq := hSq.at ks (fun h => h); have kkq := hSq.at kk (fun h => h); have kBq := hSq.at kB (fun h => h); go_simp; (try with_reducible rfl))); (try simp only [Act.put, zF, zG, zH]))
            (refine TD.val0 (v := ?v165) (by simp only [zA, zB, zC]; rfl) rfl ?hw165 (fun w1 => ?hy165) ?hn165; (case hw165 => rfl); (case hy165 => (go_simp; (try with_reducible rfl))); (try simp only [Act.put, zF, zG, zH]))
            (refine TD.val0 (v := ?v166) (by simp only [zA, zB, zC]; rfl) rfl ?hw166 (fun w1 => ?hy166) ?hn166; (case hw166 => rfl); (case hy166 => (go_simp; (try with_reducible rfl))); (try simp only [Act.put, zF, zG, zH]))
            (refine TD.val0 (v := ?v167) (by simp only [zA, zB, zC]; rfl) rfl ?hw167 (fun w1 => ?hy167) ?hn167; (case hw167 => rfl); (case hy167 => (go_simp; (try with_reducible rfl))); (try simp only [Act.put, zF, zG, zH]))
            (refine TD.val0 (v := ?v168) (by simp only [zA, zB, zC]; rfl) rfl ?hw168 (fun w1 => ?hy168) ?hn168; (case hw168 => rfl); (case hy168 => (go_simp; (try with_reducible rfl))); (try simp only [Act.put, zF, zG, zH]))
            (refine TD.val0 (v := ?v169) (by simp only [zA, zB, zC]; rfl) rfl ?hw169 (fun w1 => ?hy169) ?hn169; (case hw169 => rfl); (case hy169 => (go_simp; (try with_reducible rfl))); (try simp only [Act.put, zF, zG, zH]))
            (refine TD.val0 (v := ?v170) (by simp only [zA, zB, zC]; rfl) rfl ?hw170 (fun w1 => ?hy170) ?hn170; (case hw170 => rfl); (case hy170 => (go_simp; (try with_reducible rfl))); (try simp only [Act.put, zF, zG, zH]))
            (refine TD.load (v := ?v171) (p := ?p171) (Mod.refl _ _) (by simp only [zA, zB, zC]; rfl) rfl ?hw171 rfl ?hx171 (fun wq hSq => ?hy171) ?hn171; (case hw171 => rfl); (case hx171 => (simp only [Act.eval, zD, zA, zB, zC, zE]; (try rfl))); (case hy171 => (have kp15q := hSq.at kp15 (fun h => h); have kp17q := hSq.at kp17 (fun h => h); have kp8q := hSq.at kp8 (fun h => h); have kp4q := hSq.at kp4 (fun h => h); have kbq := hSq.at kb (fun h => h); have krq := hSq.at kr (fun h => h); have ksq := hSq.at ks (fun h => h); have kkq := hSq.at kk (fun h => h); have kBq := hSq.at kB (fun h => h); go_simp; (try with_reducible rfl))); (try simp only [Act.put, zF, zG, zH]))
            (refine TD.val0 (v := ?v172) (by simp only [zA, zB, zC]; rfl) rfl ?hw172 (fun w1 => ?hy172) ?hn172; (case hw172 => rfl); (case hy172 => (go_simp; (try with_reducible rfl))); (try simp only [Act.put, zF, zG, zH]))
            (refine TD.load (v := ?v173) (p := ?p173) (Mod.refl _ _) (by simp only [zA, zB, zC]; rfl) rfl ?hw173 rfl ?hx173 (fun wq hSq => ?hy173) ?hn173; (case hw173 => rfl); (case hx173 => (simp only [Act.eval, zD, zA, zB, zC, zE]; (try rfl))); (case hy173 => (have kp15q := hSq.at kp15 (fun h => h); have kp17q := hSq.at kp17 (fun h => h); have kp8q := hSq.at kp8 (fun h => h); have kp4q := hSq.at kp4 (fun h => h); have kbq := hSq.at kb (fun h => h); have krq := hSq.at kr (fun h => h); have ksq := hSq.at ks (fun h => h); have kkq := hSq.at kk (fun h => h); have kBq := hSq.at kB (fun h => h); go_simp; (try with_reducible rfl))); (try simp only [Act.put, zF, zG, zH]))
            (refine TD.load (v := ?v174) (p := ?p174) (Mod.refl _ _) (by simp only [zA, zB, zC]; rfl) rfl ?hw174 rfl ?hx174 (fun wq hSq => ?hy174) ?hn174; (case hw174 => rfl); (case hx174 => (simp only [Act.eval, zD, zA, zB, zC, zE]; (try rfl))); (case hy174 => (have kp15q := hSq.at kp15 (fun h => h); have kp17q := hSq.at kp17 (fun h => h); have kp8q := hSq.at kp8 (fun h => h); have kp4q := hSq.at kp4 (fun h => h); have kbq := hSq.at kb (fun h => h); have krq := hSq.at kr (fun h => h); have ksq := hSq.at ks (fun h => h); have kkq := hSq.at kk (fun h => h); have kBq := hSq.at kB (fun h => h); go_simp; (try with_reducible rfl))); (try simp only [Act.put, zF, zG, zH]))
            (refine TD.build (v := ?v175) (ps := ?p175) (by simp only [zA, zB, zC]; rfl) rfl ?hw175 rfl ?hx175 (fun w1 => ?hy175) ?hn175; (case hw175 => rfl); (case hx175 => (simp only [List.map_toArray, List.map_cons, List.map_nil, Act.eval, zD, zA, zB, zC, zE]; (try rfl))); (case hy175 => (rw [bldRole1]; (try with_reducible rfl))); (try simp only [Act.put, zF, zG, zH]))
            (refine TD.val0 (v := ?v176) (by simp only [zA, zB, zC]; rfl) rfl ?hw176 (fun w1 => ?hy176) ?hn176; (case hw176 => rfl); (case hy176 => (simp only [execOp, Act.eval, zD, zA, zB, zC, zE, xr]; go_simp; (try with_reducible rfl))); (try simp only [Act.put, zF, zG, zH]))
            (refine TD.val0 (v := ?v177) (by simp only [zA, zB, zC]; rfl) rfl ?hw177 (fun w1 => ?hy177) ?hn177; (case hw177 => rfl); (case hy177 => (go_simp; (try with_reducible rfl))); (try simp only [Act.put, zF, zG, zH]))
            (refine TD.val0 (v := ?v178) (by simp only [zA, zB, zC]; rfl) rfl ?hw178 (fun w1 => ?hy178) ?hn178; (case hw178 => rfl); (case hy178 => (go_simp; (try with_reducible rfl))); (try simp only [Act.put, zF, zG, zH]))
            (refine TD.val0 (v := ?v179) (by simp only [zA, zB, zC]; rfl) rfl ?hw179 (fun w1 => ?hy179) ?hn179; (case hw179 => rfl); (case hy179 => (go_simp; (try with_reducible rfl))); (try simp only [Act.put, zF, zG, zH]))
            (refine TD.val0 (v := ?v180) (by simp only [zA, zB, zC]; rfl) rfl ?hw180 (fun w1 => ?hy180) ?hn180; (case hw180 => rfl); (case hy180 => (go_simp; (try with_reducible rfl))); (try simp only [Act.put, zF, zG, zH]))
            (refine TD.val0 (v := ?v181) (by simp only [zA, zB, zC]; rfl) rfl ?hw181 (fun w1 => ?hy181) ?hn181; (case hw181 => rfl); (case hy181 => (go_simp; (try with_reducible rfl))); (try simp only [Act.put, zF, zG, zH]))
            (refine TD.load (v := ?v182) (p := ?p182) (Mod.refl _ _) (by simp only [zA, zB, zC]; rfl) rfl ?hw182 rfl ?hx182 (fun wq hSq => ?hy182) ?hn182; (case hw182 => rfl); (case hx182 => (simp only [Act.eval, zD, zA, zB, zC, zE]; (try rfl))); (case hy182 => (have kp15q := hSq.at kp15 (fun h => h); have kp17q := hSq.at kp17 (fun h => h); have kp8q := hSq.at kp8 (fun h => h); have kp4q := hSq.at kp4 (fun h => h); have kbq := hSq.at kb (fun h => h); have krq := hSq.at kr (fun h => h); have ksq := hSq.at ks (fun h => h); have kkq := hSq.at kk (fun h => h); have kBq := hSq.at kB (fun h => h); go_simp; (try with_reducible rfl))); (try simp only [Act.put, zF, zG, zH]))
            (refine TD.val0 (v := ?v183) (by simp only [zA, zB, zC]; rfl) rfl ?hw183 (fun w1 => ?hy183) ?hn183; (case hw183 => rfl); (case hy183 => (go_simp; (try with_reducible rfl))); (try simp only [Act.put, zF, zG, zH]))
            (refine TD.val0 (v := ?v184) (by simp only [zA, zB, zC]; rfl) rfl ?hw184 (fun w1 => ?hy184) ?hn184; (case hw184 => rfl); (case hy184 => (go_simp; (try with_reducible rfl))); (try simp only [Act.put, zF, zG, zH]))
            (refine TD.val0 (v := ?v185) (by simp only [zA, zB, zC]; rfl) rfl ?hw185 (fun w1 => ?hy185) ?hn185; (case hw185 => rfl); (case hy185 => (go_simp; (try with_reducible rfl))); (try simp only [Act.put, zF, zG, zH]))
            (refine TD.val0 (v := ?v186) (by simp only [zA, zB, zC]; rfl) rfl ?hw186 (fun w1 => ?hy186) ?hn186; (case hw186 => rfl); (case hy186 => (go_simp; (try with_reducible rfl))); (try simp only [Act.put, zF, zG, zH]))
            (refine TD.val0 (v := ?v187) (by simp only [zA, zB, zC]; rfl) rfl ?hw187 (fun w1 => ?hy187) ?hn187; (case hw187 => rfl); (case hy187 => (go_simp; (try with_reducible rfl))); (try simp only [Act.put, zF, zG, zH]))
            (refine TD.val0 (v := ?v188) (by simp only [zA, zB, zC]; rfl) rfl ?hw188 (fun w1 => ?hy188) ?hn188; (case hw188 => rfl); (case hy188 => (go_simp; (try with_reducible rfl))); (try simp only [Act.put, zF, zG, zH]))
            (refine TD.val0 (v := ?v189) (by simp only [zA, zB, zC]; rfl) rfl ?hw189 (fun w1 => ?hy189) ?hn189; (case hw189 => rfl); (case hy189 => (go_simp; (try with_reducible rfl))); (try simp only [Act.put, zF, zG, zH]))
            (refine TD.load (v := ?v190) (p := ?p190) (Mod.refl _ _) (by simp only [zA, zB, zC]; rfl) rfl ?hw190 rfl ?hx190 (fun wq hSq => ?hy190) ?hn190; (case hw190 => rfl); (case hx190 => (simp only [Act.eval, zD, zA, zB, zC, zE]; (try rfl))); (case hy190 => (have kp15q := hSq.at kp15 (fun h => h); have kp17q := hSq.at kp17 (fun h => h); have kp8q := hSq.at kp8 (fun h => h); have kp4q := hSq.at kp4 (fun h => h); have kbq := hSq.at kb (fun h => h); have krq := hSq.at kr (fun h => h); have ksq := hSq.at ks (fun h => h); have kkq := hSq.at kk (fun h => h); have kBq := hSq.at kB (fun h => h); go_simp; (try with_reducible rfl))); (try simp only [Act.put, zF, zG, zH]))
            (refine TD.val0 (v := ?v191) (by simp only [zA, zB, zC]; rfl) rfl ?hw191 (fun w1 => ?hy191) ?hn191; (case hw191 => rfl); (case hy191 => (go_simp; (try with_reducible rfl))); (try simp only [Act.put, zF, zG, zH]))
            (refine TD.load (v := ?v192) (p := ?p192) (Mod.refl _ _) (by simp only [zA, zB, zC]; rfl) rfl ?hw192 rfl ?hx192 (fun wq hSq => ?hy192) ?hn192; (case hw192 => rfl); (case hx192 => (simp only [Act.eval, zD, zA, zB, zC, zE]; (try rfl))); (case hy192 => (have kp15q := hSq.at kp15 (fun h => h); have kp17q := hSq.at kp17 (fun h => h); have kp8q := hSq.at kp8 (fun h => h); have kp4q := hSq.at kp4 (fun h => h); have kbq := hSq.at kb (fun h => h); have krq := hSq.at kr (fun h => h); have ksq := hSq.at ks (fun h => h); have kkq := hSq.at kk (fun h => h); have kBq := hSq.at kB (fun h => h); go_simp; (try with_reducible rfl))); (try simp only [Act.put, zF, zG, zH]))
            (refine TD.build (v := ?v193) (ps := ?p193) (by simp only [zA, zB, zC]; rfl) rfl ?hw193 rfl ?hx193 (fun w1 => ?hy193) ?hn193; (case hw193 => rfl); (case hx193 => (simp only [List.map_toArray, List.map_cons, List.map_nil, Act.eval, zD, zA, zB, zC, zE]; (try rfl))); (case hy193 => (rw [bldSig]; (try with_reducible rfl))); (try simp only [Act.put, zF, zG, zH]))
            (refine TD.val0 (v := ?v194) (by simp only [zA, zB, zC]; rfl) rfl ?hw194 (fun w1 => ?hy194) ?hn194; (case hw194 => rfl); (case hy194 => (simp only [execOp, Act.eval, zD, zA, zB, zC, zE, xs]; go_simp; (try with_reducible rfl))); (try simp only [Act.put, zF, zG, zH]))
            (refine TD.val0 (v := ?v195) (by simp only [zA, zB, zC]; rfl) rfl ?hw195 (fun w1 => ?hy195) ?hn195; (case hw195 => rfl); (case hy195 => (go_simp; (try with_reducible rfl))); (try simp only [Act.put, zF, zG, zH]))
            (refine TD.val0 (v := ?v196) (by simp only [zA, zB, zC]; rfl) rfl ?hw196 (fun w1 => ?hy196) ?hn196; (case hw196 => rfl); (case hy196 => (go_simp; (try with_reducible rfl))); (try simp only [Act.put, zF, zG, zH]))
            (refine TD.val0 (v := ?v197) (by simp only [zA, zB, zC]; rfl) rfl ?hw197 (fun w1 => ?hy197) ?hn197; (case hw197 => rfl); (case hy197 => (go_simp; (try with_reducible rfl))); (try simp only [Act.put, zF, zG, zH]))
            (refine TD.load (v := ?v198) (p := ?p198) (Mod.refl _ _) (by simp only [zA, zB, zC]; rfl) rfl ?hw198 rfl ?hx198 (fun wq hSq => ?hy198) ?hn198; (case hw198 => rfl); (case hx198 => (simp only [Act.eval, zD, zA, zB, zC, zE]; (try rfl))); (case hy198 => (have kp15q := hSq.at kp15 (fun h => h); have kp17q := hSq.at kp17 (fun h => h); have kp8q := hSq.at kp8 (fun h => h); have kp4q := hSq.at kp4 (fun h => h); have kbq := hSq.at kb (fun h => h); have krq := hSq.at kr (fun h => h); have ksq := hSq.at ks (fun h => h); have kkq := hSq.at kk (fun h => h); have kBq := hSq.at kB (fun h => h); go_simp; (try with_reducible rfl))); (try simp only [Act.put, zF, zG, zH]))
            (refine TD.val0 (v := ?v199) (by simp only [zA, zB, zC]; rfl) rfl ?hw199 (fun w1 => ?hy199) ?hn199; (case hw199 => rfl); (case hy199 => (go_simp; (try with_reducible rfl))); (try simp only [Act.put, zF, zG, zH]))
            (refine TD.val0 (v := ?v200) (by simp only [zA, zB, zC]; rfl) rfl ?hw200 (fun w1 => ?hy200) ?hn200; (case hw200 => rfl); (case hy200 => (go_simp; (try with_reducible rfl))); (try simp only [Act.put, zF, zG, zH]))
            (refine TD.val0 (v := ?v201) (by simp only [zA, zB, zC]; rfl) rfl ?hw201 (fun w1 => ?hy201) ?hn201; (case hw201 => rfl); (case hy201 => (go_simp; (try with_reducible rfl))); (try simp only [Act.put, zF, zG, zH]))
            (refine TD.val0 (v := ?v202) (by simp only [zA, zB, zC]; rfl) rfl ?hw202 (fun w1 => ?hy202) ?hn202; (case hw202 => rfl); (case hy202 => (go_simp; (try with_reducible rfl))); (try simp only [Act.put, zF, zG, zH]))
            (refine TD.val0 (v := ?v203) (by simp only [zA, zB, zC]; rfl) rfl ?hw203 (fun w1 => ?hy203) ?hn203; (case hw203 => rfl); (case hy203 => (go_simp; (try with_reducible rfl))); (try simp only [Act.put, zF, zG, zH]))
            (refine TD.load (v := ?v204) (p := ?p204) (Mod.refl _ _) (by simp only [zA, zB, zC]; rfl) rfl ?hw204 rfl ?hx204 (fun wq hSq => ?hy204) ?hn204; (case hw204 => rfl); (case hx204 => (simp only [Act.eval, zD, zA, zB, zC, zE]; (try rfl))); (case hy204 => (have kp15q := hSq.at kp15 (fun h => h); have kp17q := hSq.at kp17 (fun h => h); have kp8q := hSq.at kp8 (fun h => h); have kp4q := hSq.at kp4 (fun h => h); have kbq := hSq.at kb (fun h => h); have krq := hSq.at kr (fun h => h); have ksq := hSq.at ks (fun h => h); have kkq := hSq.at kk (fun h => h); have kBq := hSq.at kB (fun h => h); go_simp; (try with_reducible rfl))); (try simp only [Act.put, zF, zG, zH]))
            (refine TD.val0 (v := ?v205) (by simp only [zA, zB, zC]; rfl) rfl ?hw205 (fun w1 => ?hy205) ?hn205; (case hw205 => rfl); (case hy205 => (go_simp; (try with_reducible rfl))); (try simp only [Act.put, zF, zG, zH]))
            (refine TD.load (v := ?v206) (p := ?p206) (Mod.refl _ _) (by simp only [zA, zB, zC]; rfl) rfl ?hw206 rfl ?hx206 (fun wq hSq => ?hy206) ?hn206; (case hw206 => rfl); (case hx206 => (simp only [Act.eval, zD, zA, zB, zC, zE]; (try rfl))); (case hy206 => (have kp15q := hSq.at kp15 (fun h => h); have kp17q := hSq.at kp17 (fun h => h); have kp8q := hSq.at kp8 (fun h => h); have kp4q := hSq.at kp4 (fun h => h); have kbq := hSq.at kb (fun h => h); have krq := hSq.at kr (fun h => h); have ksq := hSq.at ks (fun h => h); have kkq := hSq.at kk (fun h => h); have kBq := hSq.at kB (fun h => h); go_simp; (try with_reducible rfl))); (try simp only [Act.put, zF, zG, zH]))
            (refine TD.load (v := ?v207) (p := ?p207) (Mod.refl _ _) (by simp only [zA, zB, zC]; rfl) rfl ?hw207 rfl ?hx207 (fun wq hSq => ?hy207) ?hn207; (case hw207 => rfl); (case hx207 => (simp only [Act.eval, zD, zA, zB, zC, zE]; (try rfl))); (case hy207 => (have kp15q := hSq.at kp15 (fun h => h); have kp17q := hSq.at kp17 (fun h => h); have kp8q := hSq.at kp8 (fun h => h); have kp4q := hSq.at kp4 (fun h => h); have kbq := hSq.at kb (fun h => h); have krq := hSq.at kr (fun h => h); have ksq := hSq.at ks (fun h => h); have kkq := hSq.at kk (fun h => h); have kBq := hSq.at kB (fun h => h); go_simp; (try with_reducible rfl))); (try simp only [Act.put, zF, zG, zH]))
            (refine TD.val0 (v := ?v208) (by simp only [zA, zB, zC]; rfl) rfl ?hw208 (fun w1 => ?hy208) ?hn208; (case hw208 => rfl); (case hy208 => (simp only [execOp, Act.eval, zD, zA, zB, zC, zE, xk]; go_simp; (try with_reducible rfl))); (try simp only [Act.put, zF, zG, zH]))
            (refine TD.val0 (v := ?v209) (by simp only [zA, zB, zC]; rfl) rfl ?hw209 (fun w1 => ?hy209) ?hn209; (case hw209 => rfl); (case hy209 => (go_simp; (try with_reducible rfl))); (try simp only [Act.put, zF, zG, zH]))
            refine TD.nil (fun w23 hr => ?_)
            have kp15 := hr.mod.at kp15 (fun h => h)
            have kp17 := hr.mod.at kp17 (fun h => h)
            have kp8 := hr.mod.at kp8 (fun h => h)
            have kp4 := hr.mod.at kp4 (fun h => h)
            have kb := hr.mod.at kb (fun h => h)
            have kr := hr.mod.at kr (fun h => h)
            have ks := hr.mod.at ks (fun h => h)
            have kk := hr.mod.at kk (fun h => h)
            have kB := hr.mod.at kB (fun h => h)
            have m23 := HM22.out.then0 hr.mod
            have HM23 := Lib.hid m23
            clear hr kb kr ks kk kB qb xr sr xs ss xk sk qB hY1 hY2 hY42 hM4
            obtain ⟨Ci, ki, qi0, qi1, qi2⟩ := HSX.out.fi
            obtain ⟨Cl, kl, ql1, ql2⟩ := HSX.out.fl
            obtain ⟨Ca, ka, qa⟩ := HSX.out.fa
            obtain ⟨Cd, kd, qd⟩ := HSX.out.fd
            obtain ⟨Cw, kw, qw⟩ := HSX.out.fw
            obtain ⟨Cq, kq, qq⟩ := HSX.out.fq
            replace qi0 : Ci[0]? = some (.int .u8 0) := qi0
            replace ki := m23.at0 ki
            replace kl := m23.at0 kl
            replace ka := m23.at0 ka
            replace kd := m23.at0 kd
            replace kw := m23.at0 kw
            replace kq := m23.at0 kq
            have kD := (HP21.out.ls.m.then0 m23).at0 HBD.out.2.1
            have qD := HBD.out.2.2
            clear m23
            go_upto_region 25 with fail
            as_aux_lemma =>
              have Lkp15 := lt_size kp15
              have Lkp17 := lt_size kp17
              have Lkp8 := lt_size kp8
              have Lkp4 := lt_size kp4
              have Lki := lt_size ki
              have Lkl := lt_size kl
              have Lka := lt_size ka
              have Lkd := lt_size kd
              have Lkw := lt_size kw
              have Lkq := lt_size kq
              have LkD := lt_size kD
              refine wp_pass (C := fun _ _ _ => False) (κ := fun i => [0, 1, 0, 0, 0, 0, 1, 0, 0, 1, 0, 0, 0, 0, 1, 0, 0, 1, 0, 0, 0, 0, 0, 0, 0, 1, 0, 0, 1, 0, 1, 0, 0, 1, 0, 0, 0, 0, 1, 0, 0, 1, 0, 0, 0, 0, 0, 0, 0, 1, 0, 0, 1, 0, 1, 0, 0, 1, 0, 0, 0, 0, 1, 0, 0, 0, 0, 0, 1, 0, 0, 1, 0, 0, 0, 0, 0, 0, 0, 1, 0, 0, 1, 0, 1, 0, 0, 1, 0, 0, 0, 0, 1, 0, 0, 1, 0, 0, 0, 0, 0, 0, 0, 1, 0, 0, 1, 0, 1, 0, 0, 1, 0, 0].getD i 0) [0, 1, 2, 3, 4, 5, 6, 7, 8, 9, 10, 11, 12, 13, 14, 15, 16, 17, 18, 19, 20, 21, 22, 23, 24, 25, 26, 27, 28, 29, 30, 31, 32, 33, 34, 35, 36, 37, 38, 39, 40, 41, 42, 43, 44, 45, 46, 47, 48, 49, 50, 51, 52, 53, 54, 55, 56, 57, 58, 59, 60, 61, 62, 63, 64, 65, 66, 67, 68, 69, 70, 71, 72, 73, 74, 75, 76, 77, 78, 79, 80, 81, 82, 83, 84, 85, 86, 87, 88, 89, 90, 91, 92, 93, 94, 95, 96, 97, 98, 99, 100, 101, 102, 103, 104, 105, 106, 107, 108, 109, 110, 111, 112, 113] (by kernel_rfl) (by kernel_rfl) (fun _ _ d _ _ h => by cases d <;> first | exact h | exact absurd h (hP _ _ _)) ?_
              (refine TD.val0 (v := ?v210) (by simp only [zA, zB, zC]; rfl) rfl ?hw210 (fun w1 => ?hy210) ?hn210; (case hw210 => rfl); (case hy210 => (go_simp; (try with_reducible rfl))); (try simp only [Act.put, zF, zG, zH]))
              (refine TD.load (v := ?v211) (p := ?p211) (Mod.refl _ _) (by simp only [zA, zB, zC]; rfl) rfl ?hw211 rfl ?hx211 (fun wq hSq => ?hy211) ?hn211; (case hw211 => rfl); (case hx211 => (simp only [Act.eval, zD, zA, zB, zC, zE]; (try rfl))); (case hy211 => (have kp15q := hSq.at kp15 (fun h => h); have kp17q := hSq.at kp17 (fun h => h); have kp8q := hSq.at kp8 (fun h => h); have kp4q := hSq.at kp4 (fun h => h); have kiq := hSq.at ki (fun h => h); have klq := hSq.at kl (fun h => h); have kaq := hSq.at ka (fun h => h); have kdq := hSq.at kd (fun h => h); have kwq := hSq.at kw (fun h => h); have kqq := hSq.at kq (fun h => h); have kDq := hSq.at kD (fun h => h); go_simp; (try with_reducible rfl))); (try simp only [Act.put, zF, zG, zH]))
              (refine TD.val0 (v := ?v212) (by simp only [zA, zB, zC]; rfl) rfl ?hw212 (fun w1 => ?hy212) ?hn212; (case hw212 => rfl); (case hy212 => (go_simp; (try with_reducible rfl))); (try simp only [Act.put, zF, zG, zH]))
              (refine TD.val0 (v := ?v213) (by simp only [zA, zB, zC]; rfl) rfl ?hw213 (fun w1 => ?hy213) ?hn213; (case hw213 => rfl); (case hy213 => (go_simp; (try with_reducible rfl))); (try simp only [Act.put, zF, zG, zH]))
              (refine TD.val0 (v := ?v214) (by simp only [zA, zB, zC]; rfl) rfl ?hw214 (fun w1 => ?hy214) ?hn214; (case hw214 => rfl); (case hy214 => (go_simp; (try with_reducible rfl))); (try simp only [Act.put, zF, zG, zH]))
              (refine TD.val0 (v := ?v215) (by simp only [zA, zB, zC]; rfl) rfl ?hw215 (fun w1 => ?hy215) ?hn215; (case hw215 => rfl); (case hy215 => (go_simp; (try with_reducible rfl))); (try simp only [Act.put, zF, zG, zH]))
              (refine TD.load (v := ?v216) (p := ?p216) (Mod.refl _ _) (by simp only [zA, zB, zC]; rfl) rfl ?hw216 rfl ?hx216 (fun wq hSq => ?hy216) ?hn216; (case hw216 => rfl); (case hx216 => (simp only [Act.eval, zD, zA, zB, zC, zE]; (try rfl))); (case hy216 => (have kp15q := hSq.at kp15 (fun h => h); have kp17q := hSq.at kp17 (fun h => h); have kp8q := hSq.at kp8 (fun h => h); have kp4q := hSq.at kp4 (fun h => h); have kiq := hSq.at ki (fun h => h); have klq := hSq.at kl (fun h => h); have kaq := hSq.at ka (fun h => h); have kdq := hSq.at kd (fun h => h); have kwq := hSq.at kw (fun h => h); have kqq := hSq.at kq (fun h => h); have kDq := hSq.at kD (fun h => h); go_simp; (try with_reducible rfl))); (try simp only [Act.put, zF, zG, zH]))
              (refine TD.val0 (v := ?v217) (by simp only [zA, zB, zC]; rfl) rfl ?hw217 (fun w1 => ?hy217) ?hn217; (case hw217 => rfl); (case hy217 => (go_simp; (try with_reducible rfl))); (try simp only [Act.put, zF, zG, zH]))
              (refine TD.val0 (v := ?v218) (by simp only [zA, zB, zC]; rfl) rfl ?hw218 (fun w1 => ?hy218) ?hn218; (case hw218 => rfl); (case hy218 => (go_simp; (try with_reducible rfl))); (try simp only [Act.put, zF, zG, zH]))
              (refine TD.load (v := ?v219) (p := ?p219) (Mod.refl _ _) (by simp only [zA, zB, zC]; rfl) rfl ?hw219 rfl ?hx219 (fun wq hSq => ?hy219) ?hn219; (case hw219 => rfl); (case hx219 => (simp only [Act.eval, zD, zA, zB, zC, zE]; (try rfl))); (case hy219 => (have kp15q := hSq.at kp15 (fun h => h); have kp17q := hSq.at kp17 (fun h => h); have kp8q := hSq.at kp8 (fun h => h); have kp4q := hSq.at kp4 (fun h => h); have kiq := hSq.at ki (fun h => h); have klq := hSq.at kl (fun h => h); have kaq := hSq.at ka (fun h => h); have kdq := hSq.at kd (fun h => h); have kwq := hSq.at kw (fun h => h); have kqq := hSq.at kq (fun h => h); have kDq := hSq.at kD (fun h => h); go_simp; (try with_reducible rfl))); (try simp only [Act.put, zF, zG, zH]))
              (refine TD.val0 (v := ?v220) (by simp only [zA, zB, zC]; rfl) rfl ?hw220 (fun w1 => ?hy220) ?hn220; (case hw220 => rfl); (case hy220 => (go_simp; (try with_reducible rfl))); (try simp only [Act.put, zF, zG, zH]))
              (refine TD.val0 (v := ?v221) (by simp only [zA, zB, zC]; rfl) rfl ?hw221 (fun w1 => ?hy221) ?hn221; (case hw221 => rfl); (case hy221 => (go_simp; (try with_reducible rfl))); (try simp only [Act.put, zF, zG, zH]))
              (refine TD.val0 (v := ?v222) (by simp only [zA, zB, zC]; rfl) rfl ?hw222 (fun w1 => ?hy222) ?hn222; (case hw222 => rfl); (case hy222 => (go_simp; (try with_reducible rfl))); (try simp only [Act.put, zF, zG, zH]))
              (refine TD.val0 (v := ?v223) (by simp only [zA, zB, zC]; rfl) rfl ?hw223 (fun w1 => ?hy223) ?hn223; (case hw223 => rfl); (case hy223 => (go_simp; (try with_reducible rfl))); (try simp only [Act.put, zF, zG, zH]))
              (refine TD.load (v := ?v224) (p := ?p224) (Mod.refl _ _) (by simp only [zA, zB, zC]; rfl) rfl ?hw224 rfl ?hx224 (fun wq hSq => ?hy224) ?hn224; (case hw224 => rfl); (case hx224 => (simp only [Act.eval, zD, zA, zB, zC, zE]; (try rfl))); (case hy224 => (have kp15q := hSq.at kp15 (fun h => h); have kp17q := hSq.at kp17 (fun h => h); have kp8q := hSq.at kp8 (fun h => h); have kp4q := hSq.at kp4 (fun h => h); have kiq := hSq.at ki (fun h => h); have klq := hSq.at kl (fun h => h); have kaq := hSq.at ka (fun h => h); have kdq := hSq.at kd (fun h => h); have kwq := hSq.at kw (fun h => h); have kqq := hSq.at kq (fun h => h); have kDq := hSq.at kD (fun h => h); go_simp; (try with_reducible rfl))); (try simp only [Act.put, zF, zG, zH]))
              (refine TD.val0 (v := ?v225) (by simp only [zA, zB, zC]; rfl) rfl ?hw225 (fun w1 => ?hy225) ?hn225; (case hw225 => rfl); (case hy225 => (go_simp; (try with_reducible rfl))); (try simp only [Act.put, zF, zG, zH]))
              (refine TD.val0 (v := ?v226) (by simp only [zA, zB, zC]; rfl) rfl ?hw226 (fun w1 => ?hy226) ?hn226; (case hw226 => rfl); (case hy226 => (go_simp; (try with_reducible rfl))); (try simp only [Act.put, zF, zG, zH]))
              (refine TD.load (v := ?v227) (p := ?p227) (Mod.refl _ _) (by simp only [zA, zB, zC]; rfl) rfl ?hw227 rfl ?hx227 (fun wq hSq => ?hy227) ?hn227; (case hw227 => rfl); (case hx227 => (simp only [Act.eval, zD, zA, zB, zC, zE]; (try rfl))); (case hy227 => (have kp15q := hSq.at kp15 (fun h => h); have kp17q := hSq.at kp17 (fun h => h); have kp8q := hSq.at kp8 (fun h => h); have kp4q := hSq.at kp4 (fun h => h); have kiq := hSq.at ki (fun h => h); have klq := hSq.at kl (fun h => h); have kaq := hSq.at ka (fun h => h); have kdq := hSq.at kd (fun h => h); have kwq := hSq.at kw (fun h => h); have kqq := hSq.at kq (fun h => h); have kDq := hSq.at kD (fun h => h); go_simp; (try with_reducible rfl))); (try simp only [Act.put, zF, zG, zH]))
              (refine TD.val0 (v := ?v228) (by simp only [zA, zB, zC]; rfl) rfl ?hw228 (fun w1 => ?hy228) ?hn228; (case hw228 => rfl); (case hy228 => (go_simp; (try with_reducible rfl))); (try simp only [Act.put, zF, zG, zH]))
              (refine TD.val0 (v := ?v229) (by simp only [zA, zB, zC]; rfl) rfl ?hw229 (fun w1 => ?hy229) ?hn229; (case hw229 => rfl); (case hy229 => (go_simp; (try with_reducible rfl))); (try simp only [Act.put, zF, zG, zH]))
              (refine TD.val0 (v := ?v230) (by simp only [zA, zB, zC]; rfl) rfl ?hw230 (fun w1 => ?hy230) ?hn230; (case hw230 => rfl); (case hy230 => (go_simp; (try with_reducible rfl))); (try simp only [Act.put, zF, zG, zH]))
              (refine TD.val0 (v := ?v231) (by simp only [zA, zB, zC]; rfl) rfl ?hw231 (fun w1 => ?hy231) ?hn231; (case hw231 => rfl); (case hy231 => (go_simp; (try with_reducible rfl))); (try simp only [Act.put, zF, zG, zH]))
              (refine TD.val0 (v := ?v232) (by simp only [zA, zB, zC]; rfl) rfl ?hw232 (fun w1 => ?hy232) ?hn232; (case hw232 => rfl); (case hy232 => (go_simp; (try with_reducible rfl))); (try simp only [Act.put, zF, zG, zH]))
              (refine TD.val0 (v := ?v233) (by simp only [zA, zB, zC]; rfl) rfl ?hw233 (fun w1 => ?hy233) ?hn233; (case hw233 => rfl); (case hy233 => (go_simp; (try with_reducible rfl))); (try simp only [Act.put, zF, zG, zH]))
              (refine TD.val0 (v := ?v234) (by simp only [zA, zB, zC]; rfl) rfl ?hw234 (fun w1 => ?hy234) ?hn234; (case hw234 => rfl); (case hy234 => (go_simp; (try with_reducible rfl))); (try simp only [Act.put, zF, zG, zH]))
              (refine TD.load (v := ?v235) (p := ?p235) (Mod.refl _ _) (by simp only [zA, zB, zC]; rfl) rfl ?hw235 rfl ?hx235 (fun wq hSq => ?hy235) ?hn235; (case hw235 => rfl); (case hx235 => (simp only [Act.eval, zD, zA, zB, zC, zE]; (try rfl))); (case hy235 => (have kp15q := hSq.at kp15 (fun h => h); have kp17q := hSq.at kp17 (fun h => h); have kp8q := hSq.at kp8 (fun h => h); have kp4q := hSq.at kp4 (fun h => h); have kiq := hSq.at ki (fun h => h); have klq := hSq.at kl (fun h => h); have kaq := hSq.at ka (fun h => h); have kdq := hSq.at kd (fun h => h); have kwq := hSq.at kw (fun h => h); have kqq := hSq.at kq (fun h => h); have kDq := hSq.at kD (fun h => h); go_simp; (try with_reducible rfl))); (try simp only [Act.put, zF, zG, zH]))
              (refine TD.val0 (v := ?v236) (by simp only [zA, zB, zC]; rfl) rfl ?hw236 (fun w1 => ?hy236) ?hn236; (case hw236 => rfl); (case hy236 => (go_simp; (try with_reducible rfl))); (try simp only [Act.put, zF, zG, zH]))
              (refine TD.val0 (v := ?v237) (by simp only [zA, zB, zC]; rfl) rfl ?hw237 (fun w1 => ?hy237) ?hn237; (case hw237 => rfl); (case hy237 => (go_simp; (try with_reducible rfl))); (try simp only [Act.put, zF, zG, zH]))
              (refine TD.load (v := ?v238) (p := ?p238) (Mod.refl _ _) (by simp only [zA, zB, zC]; rfl) rfl ?hw238 rfl ?hx238 (fun wq hSq => ?hy238) ?hn238; (case hw238 => rfl); (case hx238 => (simp only [Act.eval, zD, zA, zB, zC, zE]; (try rfl))); (case hy238 => (have kp15q := hSq.at kp15 (fun h => h); have kp17q := hSq.at kp17 (fun h => h); have kp8q := hSq.at kp8 (fun h => h); have kp4q := hSq.at kp4 (fun h => h); have kiq := hSq.at ki (fun h => h); have klq := hSq.at kl (fun h => h); have kaq := hSq.at ka (fun h => h); have kdq := hSq.at kd (fun h => h); have kwq := hSq.at kw (fun h => h); have kqq := hSq.at kq (fun h => h); have kDq := hSq.at kD (fun h => h); go_simp; (try with_reducible rfl))); (try simp only [Act.put, zF, zG, zH]))
              (refine TD.val0 (v := ?v239) (by simp only [zA, zB, zC]; rfl) rfl ?hw239 (fun w1 => ?hy239) ?hn239; (case hw239 => rfl); (case hy239 => (go_simp; (try with_reducible rfl))); (try simp only [Act.put, zF, zG, zH]))
              (refine TD.load (v := ?v240) (p := ?p240) (Mod.refl _ _) (by simp only [zA, zB, zC]; rfl) rfl ?hw240 rfl ?hx240 (fun wq hSq => ?hy240) ?hn240; (case hw240 => rfl); (case hx240 => (simp only [Act.eval, zD, zA, zB, zC, zE]; (try rfl))); (case hy240 => (have kp15q := hSq.at kp15 (fun h => h); have kp17q := hSq.at kp17 (fun h => h); have kp8q := hSq.at kp8 (fun h => h); have kp4q := hSq.at kp4 (fun h => h); have kiq := hSq.at ki (fun h => h); have klq := hSq.at kl (fun h => h); have kaq := hSq.at ka (fun h => h); have kdq := hSq.at kd (fun h => h); have kwq := hSq.at kw (fun h => h); have kqq := hSq.at kq (fun h => h); have kDq := hSq.at kD (fun h => h); go_simp; (try with_reducible rfl))); (try simp only [Act.put, zF, zG, zH]))
              (refine TD.val0 (v := ?v241) (by simp only [zA, zB, zC]; rfl) rfl ?hw241 (fun w1 => ?hy241) ?hn241; (case hw241 => rfl); (case hy241 => (go_simp; (try with_reducible rfl))); (try simp only [Act.put, zF, zG, zH]))
              (refine TD.val0 (v := ?v242) (by simp only [zA, zB, zC]; rfl) rfl ?hw242 (fun w1 => ?hy242) ?hn242; (case hw242 => rfl); (case hy242 => (go_simp; (try with_reducible rfl))); (try simp only [Act.put, zF, zG, zH]))
              (refine TD.load (v := ?v243) (p := ?p243) (Mod.refl _ _) (by simp only [zA, zB, zC]; rfl) rfl ?hw243 rfl ?hx243 (fun wq hSq => ?hy243) ?hn243; (case hw243 => rfl); (case hx243 => (simp only [Act.eval, zD, zA, zB, zC, zE]; (try rfl))); (case hy243 => (have kp15q := hSq.at kp15 (fun h => h); have kp17q := hSq.at kp17 (fun h => h); have kp8q := hSq.at kp8 (fun h => h); have kp4q := hSq.at kp4 (fun h => h); have kiq := hSq.at ki (fun h => h); have klq := hSq.at kl (fun h => h); have kaq := hSq.at ka (fun h => h); have kdq := hSq.at kd (fun h => h); have kwq := hSq.at kw (fun h => h); have kqq := hSq.at kq (fun h => h); have kDq := hSq.at kD (fun h => h); go_simp; (try with_reducible rfl))); (try simp only [Act.put, zF, zG, zH]))
              (refine TD.val0 (v := ?v244) (by simp only [zA, zB, zC]; rfl) rfl ?hw244 (fun w1 => ?hy244) ?hn244; (case hw244 => rfl); (case hy244 => (go_simp; (try with_reducible rfl))); (try simp only [Act.put, zF, zG, zH]))
              (refine TD.val0 (v := ?v245) (by simp only [zA, zB, zC]; rfl) rfl ?hw245 (fun w1 => ?hy245) ?hn245; (case hw245 => rfl); (case hy245 => (go_simp; (try with_reducible rfl))); (try simp only [Act.put, zF, zG, zH]))
              (refine TD.val0 (v := ?v246) (by simp only [zA, zB, zC]; rfl) rfl ?hw246 (fun w1 => ?hy246) ?hn246; (case hw246 => rfl); (case hy246 => (go_simp; (try with_reducible rfl))); (try simp only [Act.put, zF, zG, zH]))
              (refine TD.val0 (v := ?v247) (by simp only [zA, zB, zC]; rfl) rfl ?hw247 (fun w1 => ?hy247) ?hn247; (case hw247 => rfl); (case hy247 => (go_simp; (try with_reducible rfl))); (try simp only [Act.put, zF, zG, zH]))
              (refine TD.load (v := ?v248) (p := ?p248) (Mod.refl _ _) (by simp only [zA, zB, zC]; rfl) rfl ?hw248 rfl ?hx248 (fun wq hSq => ?hy248) ?hn248; (case hw248 => rfl); (case hx248 => (simp only [Act.eval, zD, zA, zB, zC, zE]; (try rfl))); (case hy248 => (have kp15q := hSq.at kp15 (fun h => h); have kp17q := hSq.at kp17 (fun h => h); have kp8q := hSq.at kp8 (fun h => h); have kp4q := hSq.at kp4 (fun h => h); have kiq := hSq.at ki (fun h => h); have klq := hSq.at kl (fun h => h); have kaq := hSq.at ka (fun h => h); have kdq := hSq.at kd (fun h => h); have kwq := hSq.at kw (fun h => h); have kqq := hSq.at kq (fun h => h); have kDq := hSq.at kD (fun h => h); go_simp; (try with_reducible rfl))); (try simp only [Act.put, zF, zG, zH]))
              (refine TD.val0 (v := ?v249) (by simp only [zA, zB, zC]; rfl) rfl ?hw249 (fun w1 => ?hy249) ?hn249; (case hw249 => rfl); (case hy249 => (go_simp; (try with_reducible rfl))); (try simp only [Act.put, zF, zG, zH]))
              (refine TD.val0 (v := ?v250) (by simp only [zA, zB, zC]; rfl) rfl ?hw250 (fun w1 => ?hy250) ?hn250; (case hw250 => rfl); (case hy250 => (go_simp; (try with_reducible rfl))); (try simp only [Act.put, zF, zG, zH]))
              (refine TD.load (v := ?v251) (p := ?p251) (Mod.refl _ _) (by simp only [zA, zB, zC]; rfl) rfl ?hw251 rfl ?hx251 (fun wq hSq => ?hy251) ?hn251; (case hw251 => rfl); (case hx251 => (simp only [Act.eval, zD, zA, zB, zC, zE]; (try rfl))); (case hy251 => (have kp15q := hSq.at kp15 (fun h => h); have kp17q := hSq.at kp17 (fun h => h); have kp8q := hSq.at kp8 (fun h => h); have kp4q := hSq.at kp4 (fun h => h); have kiq := hSq.at ki (fun h => h); have klq := hSq.at kl (fun h => h); have kaq := hSq.at ka (fun h => h); have kdq := hSq.at kd (fun h => h); have kwq := hSq.at kw (fun h => h); have kqq := hSq.at kq (fun h => h); have kDq := hSq.at kD (fun h => h); go_simp; (try with_reducible rfl))); (try simp only [Act.put, zF, zG, zH]))
              (refine TD.val0 (v := ?v252) (by simp only [zA, zB, zC]; rfl) rfl ?hw252 (fun w1 => ?hy252) ?hn252; (case hw252 => rfl); (case hy252 => (go_simp; (try with_reducible rfl))); (try simp only [Act.put, zF, zG, zH]))
              (refine TD.val0 (v := ?v253) (by simp only [zA, zB, zC]; rfl) rfl ?hw253 (fun w1 => ?hy253) ?hn253; (case hw253 => rfl); (case hy253 => (go_simp; (try with_reducible rfl))); (try simp only [Act.put, zF, zG, zH]))
              (refine TD.val0 (v := ?v254) (by simp only [zA, zB, zC]; rfl) rfl ?hw254 (fun w1 => ?hy254) ?hn254; (case hw254 => rfl); (case hy254 => (go_simp; (try with_reducible rfl))); (try simp only [Act.put, zF, zG, zH]))
              (refine TD.val0 (v := ?v255) (by simp only [zA, zB, zC]; rfl) rfl ?hw255 (fun w1 => ?hy255) ?hn255; (case hw255 => rfl); (case hy255 => (go_simp; (try with_reducible rfl))); (try simp only [Act.put, zF, zG, zH]))
              (refine TD.val0 (v := ?v256) (by simp only [zA, zB, zC]; rfl) rfl ?hw256 (fun w1 => ?hy256) ?hn256; (case hw256 => rfl); (case hy256 => (go_simp; (try with_reducible rfl))); (try simp only [Act.put, zF, zG, zH]))
              (refine TD.val0 (v := ?v257) (by simp only [zA, zB, zC]; rfl) rfl ?hw257 (fun w1 => ?hy257) ?hn257; (case hw257 => rfl); (case hy257 => (go_simp; (try with_reducible rfl))); (try simp only [Act.put, zF, zG, zH]))
              (refine TD.val0 (v := ?v258) (by simp only [zA, zB, zC]; rfl) rfl ?hw258 (fun w1 => ?hy258) ?hn258; (case hw258 => rfl); (case hy258 => (go_simp; (try with_reducible rfl))); (try simp only [Act.put, zF, zG, zH]))
              (refine TD.load (v := ?v259) (p := ?p259) (Mod.refl _ _) (by simp only [zA, zB, zC]; rfl) rfl ?hw259 rfl ?hx259 (fun wq hSq => ?hy259) ?hn259; (case hw259 => rfl); (case hx259 => (simp only [Act.eval, zD, zA, zB, zC, zE]; (try rfl))); (case hy259 => (have kp15q := hSq.at kp15 (fun h => h); have kp17q := hSq.at kp17 (fun h => h); have kp8q := hSq.at kp8 (fun h => h); have kp4q := hSq.at kp4 (fun h => h); have kiq := hSq.at ki (fun h => h); have klq := hSq.at kl (fun h => h); have kaq := hSq.at ka (fun h => h); have kdq := hSq.at kd (fun h => h); have kwq := hSq.at kw (fun h => h); have kqq := hSq.at kq (fun h => h); have kDq := hSq.at kD (fun h => h); go_simp; (try with_reducible rfl))); (try simp only [Act.put, zF, zG, zH]))
              (refine TD.val0 (v := ?v260) (by simp only [zA, zB, zC]; rfl) rfl ?hw260 (fun w1 => ?hy260) ?hn260; (case hw260 => rfl); (case hy260 => (go_simp; (try with_reducible rfl))); (try simp only [Act.put, zF, zG, zH]))
              (refine TD.val0 (v := ?v261) (by simp only [zA, zB, zC]; rfl) rfl ?hw261 (fun w1 => ?hy261) ?hn261; (case hw261 => rfl); (case hy261 => (go_simp; (try with_reducible rfl))); (try simp only [Act.put, zF, zG, zH]))
              (refine TD.load (v := ?v262) (p := ?p262) (Mod.refl _ _) (by simp only [zA, zB, zC]; rfl) rfl ?hw262 rfl ?hx262 (fun wq hSq => ?hy262) ?hn262; (case hw262 => rfl); (case hx262 => (simp only [Act.eval, zD, zA, zB, zC, zE]; (try rfl))); (case hy262 => (have kp15q := hSq.at kp15 (fun h => h); have kp17q := hSq.at kp17 (fun h => h); have kp8q := hSq.at kp8 (fun h => h); have kp4q := hSq.at kp4 (fun h => h); have kiq := hSq.at ki (fun h => h); have klq := hSq.at kl (fun h => h); have kaq := hSq.at ka (fun h => h); have kdq := hSq.at kd (fun h => h); have kwq := hSq.at kw (fun h => h); have kqq := hSq.at kq (fun h => h); have kDq := hSq.at kD (fun h => h); go_simp; (try with_reducible rfl))); (try simp only [Act.put, zF, zG, zH]))
              (refine TD.val0 (v := ?v263) (by simp only [zA, zB, zC]; rfl) rfl ?hw263 (fun w1 => ?hy263) ?hn263; (case hw263 => rfl); (case hy263 => (go_simp; (try with_reducible rfl))); (try simp only [Act.put, zF, zG, zH]))
              (refine TD.load (v := ?v264) (p := ?p264) (Mod.refl _ _) (by simp only [zA, zB, zC]; rfl) rfl ?hw264 rfl ?hx264 (fun wq hSq => ?hy264) ?hn264; (case hw264 => rfl); (case hx264 => (simp only [Act.eval, zD, zA, zB, zC, zE]; (try rfl))); (case hy264 => (have kp15q := hSq.at kp15 (fun h => h); have kp17q := hSq.at kp17 (fun h => h); have kp8q := hSq.at kp8 (fun h => h); have kp4q := hSq.at kp4 (fun h => h); have kiq := hSq.at ki (fun h => h); have klq := hSq.at kl (fun h => h); have kaq := hSq.at ka (fun h => h); have kdq := hSq.at kd (fun h => h); have kwq := hSq.at kw (fun h => h); have kqq := hSq.at kq (fun h => h); have kDq := hSq.at kD (fun h => h); go_simp; (try with_reducible rfl))); (try simp only [Act.put, zF, zG, zH]))
              (refine TD.val0 (v := ?v265) (by simp only [zA, zB, zC]; rfl) rfl ?hw265 (fun w1 => ?hy265) ?hn265; (case hw265 => rfl); (case hy265 => (go_simp; (try with_reducible rfl))); (try simp only [Act.put, zF, zG, zH]))
              (refine TD.val0 (v := ?v266) (by simp only [zA, zB, zC]; rfl) rfl ?hw266 (fun w1 => ?hy266) ?hn266; (case hw266 => rfl); (case hy266 => (go_simp; (try with_reducible rfl))); (try simp only [Act.put, zF, zG, zH]))
              (refine TD.load (v := ?v267) (p := ?p267) (Mod.refl _ _) (by simp only [zA, zB, zC]; rfl) rfl ?hw267 rfl ?hx267 (fun wq hSq => ?hy267) ?hn267; (case hw267 => rfl); (case hx267 => (simp only [Act.eval, zD, zA, zB, zC, zE]; (try rfl))); (case hy267 => (have kp15q := hSq.at kp15 (fun h => h); have kp17q := hSq.at kp17 (fun h => h); have kp8q := hSq.at kp8 (fun h => h); have kp4q := hSq.at kp4 (fun h => h); have kiq := hSq.at ki (fun h => h); have klq := hSq.at kl (fun h => h); have kaq := hSq.at ka (fun h => h); have kdq := hSq.at kd (fun h => h); have kwq := hSq.at kw (fun h => h); have kqq := hSq.at kq (fun h => h); have kDq := hSq.at kD (fun h => h); go_simp; (try with_reducible rfl))); (try simp only [Act.put, zF, zG, zH]))
              (refine TD.val0 (v := ?v268) (by simp only [zA, zB, zC]; rfl) rfl ?hw268 (fun w1 => ?hy268) ?hn268; (case hw268 => rfl); (case hy268 => (go_simp; (try with_reducible rfl))); (try simp only [Act.put, zF, zG, zH]))
              (refine TD.val0 (v := ?v269) (by simp only [zA, zB, zC]; rfl) rfl ?hw269 (fun w1 => ?hy269) ?hn269; (case hw269 => rfl); (case hy269 => (go_simp; (try with_reducible rfl))); (try simp only [Act.put, zF, zG, zH]))
              (refine TD.val0 (v := ?v270) (by simp only [zA, zB, zC]; rfl) rfl ?hw270 (fun w1 => ?hy270) ?hn270; (case hw270 => rfl); (case hy270 => (go_simp; (try with_reducible rfl))); (try simp only [Act.put, zF, zG, zH]))
              (refine TD.val0 (v := ?v271) (by simp only [zA, zB, zC]; rfl) rfl ?hw271 (fun w1 => ?hy271) ?hn271; (case hw271 => rfl); (case hy271 => (go_simp; (try with_reducible rfl))); (try simp only [Act.put, zF, zG, zH]))
              (refine TD.load (v := ?v272) (p := ?p272) (Mod.refl _ _) (by simp only [zA, zB, zC]; rfl) rfl ?hw272 rfl ?hx272 (fun wq hSq => ?hy272) ?hn272; (case hw272 => rfl); (case hx272 => (simp only [Act.eval, zD, zA, zB, zC, zE]; (try rfl))); (case hy272 => (have kp15q := hSq.at kp15 (fun h => h); have kp17q := hSq.at kp17 (fun h => h); have kp8q := hSq.at kp8 (fun h => h); have kp4q := hSq.at kp4 (fun h => h); have kiq := hSq.at ki (fun h => h); have klq := hSq.at kl (fun h => h); have kaq := hSq.at ka (fun h => h); have kdq := hSq.at kd (fun h => h); have kwq := hSq.at kw (fun h => h); have kqq := hSq.at kq (fun h => h); have kDq := hSq.at kD (fun h => h); go_simp; (try with_reducible rfl))); (try simp only [Act.put, zF, zG, zH]))
              (refine TD.val0 (v := ?v273) (by simp only [zA, zB, zC]; rfl) rfl ?hw273 (fun w1 => ?hy273) ?hn273; (case hw273 => rfl); (case hy273 => (go_simp; (try with_reducible rfl))); (try simp only [Act.put, zF, zG, zH]))
              (refine TD.val0 (v := ?v274) (by simp only [zA, zB, zC]; rfl) rfl ?hw274 (fun w1 => ?hy274) ?hn274; (case hw274 => rfl); (case hy274 => (go_simp; (try with_reducible rfl))); (try simp only [Act.put, zF, zG, zH]))
              (refine TD.val0 (v := ?v275) (by simp only [zA, zB, zC]; rfl) rfl ?hw275 (fun w1 => ?hy275) ?hn275; (case hw275 => rfl); (case hy275 => (go_simp; (try with_reducible rfl))); (try simp only [Act.put, zF, zG, zH]))
              (refine TD.val0 (v := ?v276) (by simp only [zA, zB, zC]; rfl) rfl ?hw276 (fun w1 => ?hy276) ?hn276; (case hw276 => rfl); (case hy276 => (go_simp; (try with_reducible rfl))); (try simp only [Act.put, zF, zG, zH]))
              (refine TD.val0 (v := ?v277) (by simp only [zA, zB, zC]; rfl) rfl ?hw277 (fun w1 => ?hy277) ?hn277; (case hw277 => rfl); (case hy277 => (go_simp; (try with_reducible rfl))); (try simp only [Act.put, zF, zG, zH]))
              (refine TD.load (v := ?v278) (p := ?p278) (Mod.refl _ _) (by simp only [zA, zB, zC]; rfl) rfl ?hw278 rfl ?hx278 (fun wq hSq => ?hy278) ?hn278; (case hw278 => rfl); (case hx278 => (simp only [Act.eval, zD, zA, zB, zC, zE]; (try rfl))); (case hy278 => (have kp15q := hSq.at kp15 (fun h => h); have kp17q := hSq.at kp17 (fun h => h); have kp8q := hSq.at kp8 (fun h => h); have kp4q := hSq.at kp4 (fun h => h); have kiq := hSq.at ki (fun h => h); have klq := hSq.at kl (fun h => h); have kaq := hSq.at ka (fun h => h); have kdq := hSq.at kd (fun h => h); have kwq := hSq.at kw (fun h => h); have kqq := hSq.at kq (fun h => h); have kDq := hSq.at kD (fun h => h); go_simp; (try with_reducible rfl))); (try simp only [Act.put, zF, zG, zH]))
              (refine TD.val0 (v := ?v279) (by simp only [zA, zB, zC]; rfl) rfl ?hw279 (fun w1 => ?hy279) ?hn279; (case hw279 => rfl); (case hy279 => (go_simp; (try with_reducible rfl))); (try simp only [Act.put, zF, zG, zH]))
              (refine TD.val0 (v := ?v280) (by simp only [zA, zB, zC]; rfl) rfl ?hw280 (fun w1 => ?hy280) ?hn280; (case hw280 => rfl); (case hy280 => (go_simp; (try with_reducible rfl))); (try simp only [Act.put, zF, zG, zH]))
              (refine TD.load (v := ?v281) (p := ?p281) (Mod.refl _ _) (by simp only [zA, zB, zC]; rfl) rfl ?hw281 rfl ?hx281 (fun wq hSq => ?hy281) ?hn281; (case hw281 => rfl); (case hx281 => (simp only [Act.eval, zD, zA, zB, zC, zE]; (try rfl))); (case hy281 => (have kp15q := hSq.at kp15 (fun h => h); have kp17q := hSq.at kp17 (fun h => h); have kp8q := hSq.at kp8 (fun h => h); have kp4q := hSq.at kp4 (fun h => h); have kiq := hSq.at ki (fun h => h); have klq := hSq.at kl (fun h => h); have kaq := hSq.at ka (fun h => h); have kdq := hSq.at kd (fun h => h); have kwq := hSq.at kw (fun h => h); have kqq := hSq.at kq (fun h => h); have kDq := hSq.at kD (fun h => h); go_simp; (try with_reducible rfl))); (try simp only [Act.put, zF, zG, zH]))
              (refine TD.val0 (v := ?v282) (by simp only [zA, zB, zC]; rfl) rfl ?hw282 (fun w1 => ?hy282) ?hn282; (case hw282 => rfl); (case hy282 => (go_simp; (try with_reducible rfl))); (try simp only [Act.put, zF, zG, zH]))
              (refine TD.val0 (v := ?v283) (by simp only [zA, zB, zC]; rfl) rfl ?hw283 (fun w1 => ?hy283) ?hn283; (case hw283 => rfl); (case hy283 => (go_simp; (try with_reducible rfl))); (try simp only [Act.put, zF, zG, zH]))
              (refine TD.val0 (v := ?v284) (by simp only [zA, zB, zC]; rfl) rfl ?hw284 (fun w1 => ?hy284) ?hn284; (case hw284 => rfl); (case hy284 => (go_simp; (try with_reducible rfl))); (try simp only [Act.put, zF, zG, zH]))
              (refine TD.val0 (v := ?v285) (by simp only [zA, zB, zC]; rfl) rfl ?hw285 (fun w1 => ?hy285) ?hn285; (case hw285 => rfl); (case hy285 => (go_simp; (try with_reducible rfl))); (try simp only [Act.put, zF, zG, zH]))
              (refine TD.val0 (v := ?v286) (by simp only [zA, zB, zC]; rfl) rfl ?hw286 (fun w1 => ?hy286) ?hn286; (case hw286 => rfl); (case hy286 => (go_simp; (try with_reducible rfl))); (try simp only [Act.put, zF, zG, zH]))
              (refine TD.val0 (v := ?v287) (by simp only [zA, zB, zC]; rfl) rfl ?hw287 (fun w1 => ?hy287) ?hn287; (case hw287 => rfl); (case hy287 => (go_simp; (try with_reducible rfl))); (try simp only [Act.put, zF, zG, zH]))
              (refine TD.val0 (v := ?v288) (by simp only [zA, zB, zC]; rfl) rfl ?hw288 (fun w1 => ?hy288) ?hn288; (case hw288 => rfl); (case hy288 => (go_simp; (try with_reducible rfl))); (try simp only [Act.put, zF, zG, zH]))
              (refine TD.load (v := ?v289) (p := ?p289) (Mod.refl _ _) (by simp only [zA, zB, zC]; rfl) rfl ?hw289 rfl ?hx289 (fun wq hSq => ?hy289) ?hn289; (case hw289 => rfl); (case hx289 => (simp only [Act.eval, zD, zA, zB, zC, zE]; (try rfl))); (case hy289 => (have kp15q := hSq.at kp15 (fun h => h); have kp17q := hSq.at kp17 (fun h => h); have kp8q := hSq.at kp8 (fun h => h); have kp4q := hSq.at kp4 (fun h => h); have kiq := hSq.at ki (fun h => h); have klq := hSq.at kl (fun h => h); have kaq := hSq.at ka (fun h => h); have kdq := hSq.at kd (fun h => h); have kwq := hSq.at kw (fun h => h); have kqq := hSq.at kq (fun h => h); have kDq := hSq.at kD (fun h => h); go_simp; (try with_reducible rfl))); (try simp only [Act.put, zF, zG, zH]))
              (refine TD.val0 (v := ?v290) (by simp only [zA, zB, zC]; rfl) rfl ?hw290 (fun w1 => ?hy290) ?hn290; (case hw290 => rfl); (case hy290 => (go_simp; (try with_reducible rfl))); (try simp only [Act.put, zF, zG, zH]))
              (refine TD.val0 (v := ?v291) (by simp only [zA, zB, zC]; rfl) rfl ?hw291 (fun w1 => ?hy291) ?hn291; (case hw291 => rfl); (case hy291 => (go_simp; (try with_reducible rfl))); (try simp only [Act.put, zF, zG, zH]))
              (refine TD.load (v := ?v292) (p := ?p292) (Mod.refl _ _) (by simp only [zA, zB, zC]; rfl) rfl ?hw292 rfl ?hx292 (fun wq hSq => ?hy292) ?hn292; (case hw292 => rfl); (case hx292 => (simp only [Act.eval, zD, zA, zB, zC, zE]; (try rfl))); (case hy292 => (have kp15q := hSq.at kp15 (fun h => h); have kp17q := hSq.at kp17 (fun h => h); have kp8q := hSq.at kp8 (fun h => h); have kp4q := hSq.at kp4 (fun h => h); have kiq := hSq.at ki (fun h => h); have klq := hSq.at kl (fun h => h); have kaq := hSq.at ka (fun h => h); have kdq := hSq.at kd (fun h => h); have kwq := hSq.at kw (fun h => h); have kqq := hSq.at kq (fun h => h); have kDq := hSq.at kD (fun h => h); go_simp; (try with_reducible rfl))); (try simp only [Act.put, zF, zG, zH]))
              (refine TD.val0 (v := ?v293) (by simp only [zA, zB, zC]; rfl) rfl ?hw293 (fun w1 => ?hy293) ?hn293; (case hw293 => rfl); (case hy293 => (go_simp; (try with_reducible rfl))); (try simp only [Act.put, zF, zG, zH]))
              (refine TD.load (v := ?v294) (p := ?p294) (Mod.refl _ _) (by simp only [zA, zB, zC]; rfl) rfl ?hw294 rfl ?hx294 (fun wq hSq => ?hy294) ?hn294; (case hw294 => rfl); (case hx294 => (simp only [Act.eval, zD, zA, zB, zC, zE]; (try rfl))); (case hy294 => (have kp15q := hSq.at kp15 (fun h => h); have kp17q := hSq.at kp17 (fun h => h); have kp8q := hSq.at kp8 (fun h => h); have kp4q := hSq.at kp4 (fun h => h); have kiq := hSq.at ki (fun h => h); have klq := hSq.at kl (fun h => h); have kaq := hSq.at ka (fun h => h); have kdq := hSq.at kd (fun h => h); have kwq := hSq.at kw (fun h => h); have kqq := hSq.at kq (fun h => h); have kDq := hSq.at kD (fun h => h); go_simp; (try with_reducible rfl))); (try simp only [Act.put, zF, zG, zH]))
              (refine TD.val0 (v := ?v295) (by simp only [zA, zB, zC]; rfl) rfl ?hw295 (fun w1 => ?hy295) ?hn295; (case hw295 => rfl); (case hy295 => (go_simp; (try with_reducible rfl))); (try simp only [Act.put, zF, zG, zH]))
              (refine TD.val0 (v := ?v296) (by simp only [zA, zB, zC]; rfl) rfl ?hw296 (fun w1 => ?hy296) ?hn296; (case hw296 => rfl); (case hy296 => (go_simp; (try with_reducible rfl))); (try simp only [Act.put, zF, zG, zH]))
              (refine TD.load (v := ?v297) (p := ?p297) (Mod.refl _ _) (by simp only [zA, zB, zC]; rfl) rfl ?hw297 rfl ?hx297 (fun wq hSq => ?hy297) ?hn297; (case hw297 => rfl); (case hx297 => (simp only [Act.eval, zD, zA, zB, zC, zE]; (try rfl))); (case hy297 => (have kp15q := hSq.at kp15 (fun h => h); have kp17q := hSq.at kp17 (fun h => h); have kp8q := hSq.at kp8 (fun h => h); have kp4q := hSq.at kp4 (fun h => h); have kiq := hSq.at ki (fun h => h); have klq := hSq.at kl (fun h => h); have kaq := hSq.at ka (fun h => h); have kdq := hSq.at kd (fun h => h); have kwq := hSq.at kw (fun h => h); have kqq := hSq.at kq (fun h => h); have kDq := hSq.at kD (fun h => h); go_simp; (try with_reducible rfl))); (try simp only [Act.put, zF, zG, zH]))
              (refine TD.val0 (v := ?v298) (by simp only [zA, zB, zC]; rfl) rfl ?hw298 (fun w1 => ?hy298) ?hn298; (case hw298 => rfl); (case hy298 => (go_simp; (try with_reducible rfl))); (try simp only [Act.put, zF, zG, zH]))
              (refine TD.val0 (v := ?v299) (by simp only [zA, zB, zC]; rfl) rfl ?hw299 (fun w1 => ?hy299) ?hn299; (case hw299 => rfl); (case hy299 => (go_simp; (try with_reducible rfl))); (try simp only [Act.put, zF, zG, zH]))
              (refine TD.val0 (v := ?v300) (by simp only [zA, zB, zC]; rfl) rfl ?hw300 (fun w1 => ?hy300) ?hn300; (case hw300 => rfl); (case hy300 => (go_simp; (try with_reducible rfl))); (try simp only [Act.put, zF, zG, zH]))
              (refine TD.val0 (v := ?v301) (by simp only [zA, zB, zC]; rfl) rfl ?hw301 (fun w1 => ?hy301) ?hn301; (case hw301 => rfl); (case hy301 => (go_simp; (try with_reducible rfl))); (try simp only [Act.put, zF, zG, zH]))
              (refine TD.load (v := ?v302) (p := ?p302) (Mod.refl _ _) (by simp only [zA, zB, zC]; rfl) rfl ?hw302 rfl ?hx302 (fun wq hSq => ?hy302) ?hn302; (case hw302 => rfl); (case hx302 => (simp only [Act.eval, zD, zA, zB, zC, zE]; (try rfl))); (case hy302 => (have kp15q := hSq.at kp15 (fun h => h); have kp17q := hSq.at kp17 (fun h => h); have kp8q := hSq.at kp8 (fun h => h); have kp4q := hSq.at kp4 (fun h => h); have kiq := hSq.at ki (fun h => h); have klq := hSq.at kl (fun h => h); have kaq := hSq.at ka (fun h => h); have kdq := hSq.at kd (fun h => h); have kwq := hSq.at kw (fun h => h); have kqq := hSq.at kq (fun h => h); have kDq := hSq.at kD (fun h => h); go_simp; (try with_reducible rfl))); (try simp only [Act.put, zF, zG, zH]))
              (refine TD.val0 (v := ?v303) (by simp only [zA, zB, zC]; rfl) rfl ?hw303 (fun w1 => ?hy303) ?hn303; (case hw303 => rfl); (case hy303 => (go_simp; (try with_reducible rfl))); (try simp only [Act.put, zF, zG, zH]))
              (refine TD.val0 (v := ?v304) (by simp only [zA, zB, zC]; rfl) rfl ?hw304 (fun w1 => ?hy304) ?hn304; (case hw304 => rfl); (case hy304 => (go_simp; (try with_reducible rfl))); (try simp only [Act.put, zF, zG, zH]))
              (refine TD.load (v := ?v305) (p := ?p305) (Mod.refl _ _) (by simp only [zA, zB, zC]; rfl) rfl ?hw305 rfl ?hx305 (fun wq hSq => ?hy305) ?hn305; (case hw305 => rfl); (case hx305 => (simp only [Act.eval, zD, zA, zB, zC, zE]; (try rfl))); (case hy305 => (have kp15q := hSq.at kp15 (fun h => h); have kp17q := hSq.at kp17 (fun h => h); have kp8q := hSq.at kp8 (fun h => h); have kp4q := hSq.at kp4 (fun h => h); have kiq := hSq.at ki (fun h => h); have klq := hSq.at kl (fun h => h); have kaq := hSq.at ka (fun h => h); have kdq := hSq.at kd (fun h => h); have kwq := hSq.at kw (fun h => h); have kqq := hSq.at kq (fun h => h); have kDq := hSq.at kD (fun h => h); go_simp; (try with_reducible rfl))); (try simp only [Act.put, zF, zG, zH]))
              (refine TD.val0 (v := ?v306) (by simp only [zA, zB, zC]; rfl) rfl ?hw306 (fun w1 => ?hy306) ?hn306; (case hw306 => rfl); (case hy306 => (go_simp; (try with_reducible rfl))); (try simp only [Act.put, zF, zG, zH]))
              (refine TD.val0 (v := ?v307) (by simp only [zA, zB, zC]; rfl) rfl ?hw307 (fun w1 => ?hy307) ?hn307; (case hw307 => rfl); (case hy307 => (go_simp; (try with_reducible rfl))); (try simp only [Act.put, zF, zG, zH]))
              (refine TD.val0 (v := ?v308) (by simp only [zA, zB, zC]; rfl) rfl ?hw308 (fun w1 => ?hy308) ?hn308; (case hw308 => rfl); (case hy308 => (go_simp; (try with_reducible rfl))); (try simp only [Act.put, zF, zG, zH]))
              (refine TD.val0 (v := ?v309) (by simp only [zA, zB, zC]; rfl) rfl ?hw309 (fun w1 => ?hy309) ?hn309; (case hw309 => rfl); (case hy309 => (go_simp; (try with_reducible rfl))); (try simp only [Act.put, zF, zG, zH]))
              (refine TD.val0 (v := ?v310) (by simp only [zA, zB, zC]; rfl) rfl ?hw310 (fun w1 => ?hy310) ?hn310; (case hw310 => rfl); (case hy310 => (go_simp; (try with_reducible rfl))); (try simp only [Act.put, zF, zG, zH]))
              (refine TD.val0 (v := ?v311) (by simp only [zA, zB, zC]; rfl) rfl ?hw311 (fun w1 => ?hy311) ?hn311; (case hw311 => rfl); (case hy311 => (go_simp; (try with_reducible rfl))); (try simp only [Act.put, zF, zG, zH]))
              (refine TD.val0 (v := ?v312) (by simp only [zA, zB, zC]; rfl) rfl ?hw312 (fun w1 => ?hy312) ?hn312; (case hw312 => rfl); (case hy312 => (go_simp; (try with_reducible rfl))); (try simp only [Act.put, zF, zG, zH]))
              (refine TD.load (v := ?v313) (p := ?p313) (Mod.refl _ _) (by simp only [zA, zB, zC]; rfl) rfl ?hw313 rfl ?hx313 (fun wq hSq => ?hy313) ?hn313; (case hw313 => rfl); (case hx313 => (simp only [Act.eval, zD, zA, zB, zC, zE]; (try rfl))); (case hy313 => (have kp15q := hSq.at kp15 (fun h => h); have kp17q := hSq.at kp17 (fun h => h); have kp8q := hSq.at kp8 (fun h => h); have kp4q := hSq.at kp4 (fun h => h); have kiq := hSq.at ki (fun h => h); have klq := hSq.at kl (fun h => h); have kaq := hSq.at ka (fun h => h); have kdq := hSq.at kd (fun h => h); have kwq := hSq.at kw (fun h => h); have kqq := hSq.at kq (fun h => h); have kDq := hSq.at kD (fun h => h); go_simp; (try with_reducible rfl))); (try simp only [Act.put, zF, zG, zH]))
              (refine TD.val0 (v := ?v314) (by simp only [zA, zB, zC]; rfl) rfl ?hw314 (fun w1 => ?hy314) ?hn314; (case hw314 => rfl); (case hy314 => (go_simp; (try with_reducible rfl))); (try simp only [Act.put, zF, zG, zH]))
              (refine TD.val0 (v := ?v315) (by simp only [zA, zB, zC]; rfl) rfl ?hw315 (fun w1 => ?hy315) ?hn315; (case hw315 => rfl); (case hy315 => (go_simp; (try with_reducible rfl))); (try simp only [Act.put, zF, zG, zH]))
              (refine TD.load (v := ?v316) (p := ?p316) (Mod.refl _ _) (by simp only [zA, zB, zC]; rfl) rfl ?hw316 rfl ?hx316 (fun wq hSq => ?hy316) ?hn316; (case hw316 => rfl); (case hx316 => (simp only [Act.eval, zD, zA, zB, zC, zE]; (try rfl))); (case hy316 => (have kp15q := hSq.at kp15 (fun h => h); have kp17q := hSq.at kp17 (fun h => h); have kp8q := hSq.at kp8 (fun h => h); have kp4q := hSq.at kp4 (fun h => h); have kiq := hSq.at ki (fun h => h); have klq := hSq.at kl (fun h => h); have kaq := hSq.at ka (fun h => h); have kdq := hSq.at kd (fun h => h); have kwq := hSq.at kw (fun h => h); have kqq := hSq.at kq (fun h => h); have kDq := hSq.at kD (fun h => h); go_simp; (try with_reducible rfl))); (try simp only [Act.put, zF, zG, zH]))
              (refine TD.val0 (v := ?v317) (by simp only [zA, zB, zC]; rfl) rfl ?hw317 (fun w1 => ?hy317) ?hn317; (case hw317 => rfl); (case hy317 => (go_simp; (try with_reducible rfl))); (try simp only [Act.put, zF, zG, zH]))
              (refine TD.load (v := ?v318) (p := ?p318) (Mod.refl _ _) (by simp only [zA, zB, zC]; rfl) rfl ?hw318 rfl ?hx318 (fun wq hSq => ?hy318) ?hn318; (case hw318 => rfl); (case hx318 => (simp only [Act.eval, zD, zA, zB, zC, zE]; (try rfl))); (case hy318 => (have kp15q := hSq.at kp15 (fun h => h); have kp17q := hSq.at kp17 (fun h => h); have kp8q := hSq.at kp8 (fun h => h); have kp4q := hSq.at kp4 (fun h => h); have kiq := hSq.at ki (fun h => h); have klq := hSq.at kl (fun h => h); have kaq := hSq.at ka (fun h => h); have kdq := hSq.at kd (fun h => h); have kwq := hSq.at kw (fun h => h); have kqq := hSq.at kq (fun h => h); have kDq := hSq.at kD (fun h => h); go_simp; (try with_reducible rfl))); (try simp only [Act.put, zF, zG, zH]))
              (refine TD.val0 (v := ?v319) (by simp only [zA, zB, zC]; rfl) rfl ?hw319 (fun w1 => ?hy319) ?hn319; (case hw319 => rfl); (case hy319 => (go_simp; (try with_reducible rfl))); (try simp only [Act.put, zF, zG, zH]))
              (refine TD.val0 (v := ?v320) (by simp only [zA, zB, zC]; rfl) rfl ?hw320 (fun w1 => ?hy320) ?hn320; (case hw320 => rfl); (case hy320 => (go_simp; (try with_reducible rfl))); (try simp only [Act.put, zF, zG, zH]))
              (refine TD.load (v := ?v321) (p := ?p321) (Mod.refl _ _) (by simp only [zA, zB, zC]; rfl) rfl ?hw321 rfl ?hx321 (fun wq hSq => ?hy321) ?hn321; (case hw321 => rfl); (case hx321 => (simp only [Act.eval, zD, zA, zB, zC, zE]; (try rfl))); (case hy321 => (have kp15q := hSq.at kp15 (fun h => h); have kp17q := hSq.at kp17 (fun h => h); have kp8q := hSq.at kp8 (fun h => h); have kp4q := hSq.at kp4 (fun h => h); have kiq := hSq.at ki (fun h => h); have klq := hSq.at kl (fun h => h); have kaq := hSq.at ka (fun h => h); have kdq := hSq.at kd (fun h => h); have kwq := hSq.at kw (fun h => h); have kqq := hSq.at kq (fun h => h); have kDq := hSq.at kD (fun h => h); go_simp; (try with_reducible rfl))); (try simp only [Act.put, zF, zG, zH]))
              (refine TD.val0 (v := ?v322) (by simp only [zA, zB, zC]; rfl) rfl ?hw322 (fun w1 => ?hy322) ?hn322; (case hw322 => rfl); (case hy322 => (go_simp; (try with_reducible rfl))); (try simp only [Act.put, zF, zG, zH]))
              (refine TD.val0 (v := ?v323) (by simp only [zA, zB, zC]; rfl) rfl ?hw323 (fun w1 => ?hy323) ?hn323; (case hw323 => rfl); (case hy323 => (go_simp; (try with_reducible rfl))); (try simp only [Act.put, zF, zG, zH]))
              refine TD.nil (fun w25 hr => ?_)
              have kp15 := hr.mod.at kp15 (fun h => h)
              have kp17 := hr.mod.at kp17 (fun h => h)
              have kp8 := hr.mod.at kp8 (fun h => h)
              have kp4 := hr.mod.at kp4 (fun h => h)
              have ki := hr.mod.at ki (fun h => h)
              have kl := hr.mod.at kl (fun h => h)
              have ka := hr.mod.at ka (fun h => h)
              have kd := hr.mod.at kd (fun h => h)
              have kw := hr.mod.at kw (fun h => h)
              have kq := hr.mod.at kq (fun h => h)
              have kD := hr.mod.at kD (fun h => h)
              have m25 := HM23.out.then0 hr.mod
              clear hr ki kl ka kd kw kq kD qi0 qi1 qi2 ql1 ql2 qa qd qw qq qD hM37 hM38
              have hR48 := HR.out.2
              obtain ⟨hbs, hY, hYr, hY51, _⟩ := HB.out
              have hne8 : p15 ≠ p8 := fun e => by rw [e, kp8] at kp15; cases kp15
              have hp8b : p8 < bs := by have h1 := Lkp8; omega
              clear hbs hY
              go_upto_region 27 with fail
              have Lkp8 := lt_size kp8
              have Lkp15 := lt_size kp15
              have Lkp4 := lt_size kp4
              refine wp_pass0 (C := fun _ _ _ => False) (κ := fun i => [0, 1, 5].getD i 0) [0, 1, 2] (by kernel_rfl) (by kernel_rfl) (fun _ _ d _ _ h => by cases d <;> first | exact h | exact absurd h (hP _ _ _)) ?_
              (refine TD.val0 (v := ?v324) (by simp only [zA, zB, zC]; rfl) rfl ?hw324 (fun w1 => ?hy324) ?hn324; (case hw324 => rfl); (case hy324 => (go_simp; (try with_reducible rfl))); (try simp only [Act.put, zF, zG, zH]))
              (refine TD.load (v := ?v325) (p := ?p325) (Mod.refl _ _) (by simp only [zA, zB, zC]; rfl) rfl ?hw325 rfl ?hx325 (fun wq hSq => ?hy325) ?hn325; (case hw325 => rfl); (case hx325 => (simp only [Act.eval, zD, zA, zB, zC, zE]; (try rfl))); (case hy325 => (have kp8q := hSq.at kp8 (fun h => h); have kp15q := hSq.at kp15 (fun h => h); have kp4q := hSq.at kp4 (fun h => h); go_simp; (try with_reducible rfl))); (try simp only [Act.put, zF, zG, zH]))
              refine TD.eff (by simp only [zA, zB, zC]; rfl) rfl (fun wE hr => ?_)
              have kp8 := hr.mod.at0 kp8
              have kp15 := hr.mod.at0 kp15
              have kp4 := hr.mod.at0 kp4
              have mE := hr.mod
              (refine eff_store (X := ?X326) (Y := ?Y326) (w' := ?w326) (by simp only [zA, zB, zC]; rfl) ?hw326 rfl ?hx326 ?hz326 ?hy326 ?hn326; (case hw326 => rfl); (case hx326 => (simp only [Act.eval, zD, zA, zB, zC, zE]; (try rfl))); (case hz326 => (simp only [Act.eval, zD, zA, zB, zC, zE]; (try rfl))); (case hy326 => (go_simp; (try with_reducible rfl))))
              (first | refine TE.nil_set kp8 (fun w27 kp8 mS => ?_) | refine TE.nil_setCell kp8 (fun w27 kp8 mS => ?_))
              (try simp only [Array.setIfInBounds, zF, zG, zH] at kp8)
              have kp15 := mS.at_ne kp15 (by omega)
              have kp4 := mS.at_ne kp4 (by omega)
              have HPN := Lib.hid (HP20.out.next HSX.out HB.out.1 HM21.out (m25.then0 mE) mS HP8.out hp8b)
              have kp8x : w27.heap[p8]? = some (.cells (rdr (rK b k d K2)) 48 (0, 0)) := by
                first | exact kp8 | (rw [hYr] at kp8; exact kp8) | (simpa [hYr] using kp8)
              clear kp8 mE mS m25 hYr hY51 hR48 hne8 hp8b HP21 HSX HP20 HM21 HM22 HM23 HB HYM HMo
              go_wp2_with fail
              go_roundw
              case rel => exact ⟨i + 1, K2, by omega, by go_num, HPN, kp8x, kp4⟩
              case measure => simp [intOf]; omega
    · obtain rfl : i = 2 := by omega
      have m3 := HP.out.ls.m
      clear HP
      go_wp2_with fail
      go_at_call 7
      refine (lives_c _ (HT.out.mod0 m3)).mono ?_
      rintro e w4 ⟨rfl, m4⟩
      go_wp2_with fail
      go_ret
      exact ⟨rfl, m3.then0 m4⟩
end Go.Proofs.YtdeghpmlhcaedaaDoor
