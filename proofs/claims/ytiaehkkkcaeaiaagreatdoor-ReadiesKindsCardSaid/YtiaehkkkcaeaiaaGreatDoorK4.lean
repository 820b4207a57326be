/- The lemmas of the proof, part K4: how the program and its data lie in memory, and what its functions do. -/
import Derived.Test.YtiaehkkkcaeaiaaGreatDoorK3
import Derived.Shelf.Abstract
import Derived.OwnWalk
set_option linter.unusedSimpArgs false
set_option linter.unusedVariables false
set_option linter.unusedSectionVars false
namespace Go.Proofs.YtiaehkkkcaeaiaaGreatDoor
open Go.RowKit
open Go.ChangeMaps (setBlock)
attribute [local go_sem ↓] wlKey ldKey stKey ldSg stSg wlTc ldTc stTc eqKey1
attribute [local go_sem] cell_blk frozen_blk kc_ext one_int one_bool one_ptr one_slice one_map kc_one kc_one0 kc_size zKey_size sgc_size sgc_ext sgc_one0 sgc_one' txr_size txr_all txr_one txr_one' txr0 txr38 txr39 txr0' txr38' txr39' zTx_size Value.cells
attribute [local go_sem ↓] wlLo ldLo stLo wlIn ldIn stIn
attribute [local go_sem] txr2 txr5 txr2' txr5' txr_hd inrR_size inrR_all zInR_size inrR0 inrR1 inrR0' inrR1'
theorem alIntR (w : World) : (Instr.alloc 3 true (.tuple #[])).run Tryz.prog w = .ok (.pointer (some ⟨w.heap.size, 0, none⟩)) (w.alloc (.cells #[.int .i64 0] 3)) := by kernel_rfl
set_option maxRecDepth 20000 in
theorem point2_c (q1 A : Nat) (c : UInt8) (w : World) (k1 : w.heap[q1]? = some (.cells #[.int .i64 (A : Int)] 3 (0, 0))) : Calls Tryz.prog 113 #[u8v c, pV q1] w fun e w' => e = .returned (.bool (decide (A ≤ c.toNat))) ∧ Mod (fun _ => False) w w' := by
 obtain ⟨k, hk⟩ : ∃ k, c.toNat = k := ⟨_, rfl⟩
 have hkb : k < 256 := by rw [← hk]; exact c.toNat_lt
 have hw : IntKind.i64.wrap (k : Int) = (k : Int) := by rw [IntKind.wrap_i64]; omega
 show Calls Tryz.prog 113 #[.int .u8 (c.toNat : Int), pV q1] w _
 rw [hk]
 by_cases h : A ≤ k
 ·have hd := decide_eq_true h
  go_enter Tryz.func113, Tryz.ntmps113
  go_wp2_with fail
  go_ret
  exact ⟨by first | rfl | (simp [h]; done) | (simp [h]; omega), Mod.refl _ _⟩
 ·have hd := decide_eq_false h
  go_enter Tryz.func113, Tryz.ntmps113
  go_wp2_with fail
  go_ret
  exact ⟨by first | rfl | (simp [h]; done) | (simp [h]; omega), Mod.refl _ _⟩
theorem point_eq (K A : Nat) (y : InR) : (!pointP K A (inP y)) = (decide (y.p.toNat = 0) || decide (K ≤ y.p.toNat) || y.a.l.any (fun c => decide (A ≤ c.toNat))) := by
 unfold pointP inP
 simp only [Bool.not_and, List.not_all_eq_any_not]
 rw [← decide_not, ← decide_not]
 congr 1
 ·congr 1
  ·simp
  ·simp
 ·congr 1
  funext c
  rw [← decide_not]
  simp
set_option maxRecDepth 20000 in
set_option maxHeartbeats 1600000 in
theorem point1_c (q1 q2 A K : Nat) (y : InR) (w : World) (k1 : w.heap[q1]? = some (.cells #[.int .i64 (A : Int)] 3 (0, 0))) (k2 : w.heap[q2]? = some (.cells #[.int .i64 (K : Int)] 3 (0, 0))) (hl : SlAt uc 1 w y.a.a y.a.l) (hb : y.a.l.length ≤ 1000000) : Calls Tryz.prog 112 #[.agg (inr y), pV q1, pV q2] w fun e w' => e = .returned (.bool (!pointP K A (inP y))) ∧ Mod (fun _ => False) w w' := by
 rw [point_eq]
 obtain ⟨k, hk⟩ : ∃ k, y.p.toNat = k := ⟨_, rfl⟩
 have hkb : k < 256 := by rw [← hk]; exact y.p.toNat_lt
 have hw : IntKind.i64.wrap (k : Int) = (k : Int) := by rw [IntKind.wrap_i64]; omega
 obtain ⟨b, hbb⟩ : ∃ b, y.a.l.any (fun c => decide (A ≤ c.toNat)) = b := ⟨_, rfl⟩
 have HL := Lib.hid (And.intro hl hb)
 have hmf := hmf
 rw [hk, hbb]
 clear hl hb
 go_enter Tryz.func112, Tryz.ntmps112
 go_upto_region 0 with fail
 have Lk1 := lt_size k1
 have Lk2 := lt_size k2
 refine wp_pass0 (C := fun _ _ _ => False) (κ := fun i => [3, 0].getD i 0) [0, 1] (by kernel_rfl) (by kernel_rfl) (fun _ _ d _ _ h => by cases d <;> first | exact h | exact absurd h (hP _ _ _)) ?_
 (refine TD.box (v := ?v1) (by simp only [zK]; rfl) rfl (by rfl) rfl rfl ?hx1 (fun p3 hp3 => ?n1); (case hx1 => simp only [Act.eval, zM]; try rfl); try simp only [Act.put, zL])
 (refine TD.val0 (v := ?_) (by simp only [zK]; rfl) rfl (by rfl) (fun w1 => ?_) ?_; rotate_left; (next => go_simp; try with_reducible rfl); try simp only [Act.put, zL])
 refine TD.nil (fun w1 hr => ?_)
 replace k1 := hr.mod.at k1 (fun h => h)
 replace k2 := hr.mod.at k2 (fun h => h)
 have kp3 := hr.box p3 _ (by first | exact Bx.set_same _ _ _ | (simp only [Bx.set_same]; rfl)); dsimp only [Value.cells] at kp3; obtain ⟨gp3, kp3⟩ := kp3
 have m1 := hr.mod
 clear hr
 by_cases h0 : k = 0
 ·have hd := decide_eq_true h0
  have hd2 : decide ((k : Int) = 0) = true := decide_eq_true (by omega)
  go_wp2_with fail
  go_ret
  exact ⟨by first | rfl | (simp [h0]; done), m1⟩
 ·have hd := decide_eq_false h0
  have hd2 : decide ((k : Int) = 0) = false := decide_eq_false (by omega)
  by_cases h1 : K ≤ k
  ·have hd3 := decide_eq_true h1
   go_wp2_with fail
   go_ret
   exact ⟨by first | rfl | (simp [h1]; done), m1⟩
  ·have hd3 := decide_eq_false h1
   have HC := Lib.hid (contB_c q1 y.a.a y.a.l y.a.c w1 (HL.out.1.mod0 m1) HL.out.2 (fun c => decide (A ≤ c.toNat)) (fun c _ w2 m => point2_c q1 A c w2 (m.at0 k1)))
   have hC := HC.out
   rw [hbb] at hC
   have HC2 := Lib.hid hC
   clear hC HC hbb
   go_wp2_with fail
   go_at_call 114
   refine HC2.out.mono ?_
   rintro e w2 ⟨rfl, m2⟩
   have m3 := m1.trans m2
   go_wp2_with fail
   go_ret
   exact ⟨by first | rfl | (simp [h0, h1]; done), m3⟩
theorem pointed_eq (x : RdR) : pointedP (txP x) = !(x.ins.l.any (fun y => !pointP x.ks.l.length (totP (txP x)) (inP y))) := by
 unfold pointedP
 show (x.ins.l.map inP).all _ = _
 rw [List.all_map, List.not_any_eq_all_not]
 congr 1
 funext y
 simp only [Bool.not_not]
 rfl
set_option maxRecDepth 20000 in
set_option maxHeartbeats 1600000 in
theorem pointed_c (x : RdR) (w : World) (h : TxRd w x) : Calls Tryz.prog 70 #[.agg (txr x)] w fun e w' => e = .returned (.bool (pointedP (txP x))) ∧ Mod (fun _ => False) w w' := by
 rw [pointed_eq]
 have HX := Lib.hid h
 clear h
 obtain ⟨b, hb⟩ : ∃ b, x.ins.l.any (fun y => !pointP x.ks.l.length (totP (txP x)) (inP y)) = b := ⟨_, rfl⟩
 obtain ⟨T, hT⟩ : ∃ T, totP (txP x) = T := ⟨_, rfl⟩
 obtain ⟨n, hn⟩ : ∃ n, x.ks.l.length = n := ⟨_, rfl⟩
 have HB := Lib.hid hb
 have HT := Lib.hid hT
 rw [hb]
 clear hb hT
 have hmf := hmf
 go_enter Tryz.func70, Tryz.ntmps70
 go_upto_region 0 with fail
 refine wp_pass0 (C := fun _ _ _ => False) (κ := fun i => [3, 0].getD i 0) [0, 1] (by kernel_rfl) (by kernel_rfl) (fun _ _ d _ _ h => by cases d <;> first | exact h | exact absurd h (hP _ _ _)) ?_
 (refine TD.box (v := ?v3) (by simp only [zK]; rfl) rfl (by rfl) rfl rfl ?hx3 (fun p1 hp1 => ?n3); (case hx3 => simp only [Act.eval, zM]; try rfl); try simp only [Act.put, zL])
 (refine TD.val0 (v := ?_) (by simp only [zK]; rfl) rfl (by rfl) (fun w1 => ?_) ?_; rotate_left; (next => go_simp; try with_reducible rfl); try simp only [Act.put, zL])
 refine TD.nil (fun w1 hr => ?_)
 have kp1 := hr.box p1 _ (by first | exact Bx.set_same _ _ _ | (simp only [Bx.set_same]; rfl)); dsimp only [Value.cells] at kp1; obtain ⟨gp1, kp1⟩ := kp1
 have m1 := hr.mod
 clear hr
 have HM1 := Lib.hid m1
 clear m1
 go_upto_region 1 with fail
 have Lkp1 := lt_size kp1
 refine wp_pass (C := fun _ _ v => v = .int .i64 (T : Int)) (κ := fun i => [0, 0, 1, 0, 1, 2, 3, 3, 4, 4].getD i 0) [0, 1, 2, 3, 4, 5, 6, 7, 8, 9] (by kernel_rfl) (by kernel_rfl) (fun _ _ d _ _ h => by cases d <;> first | exact h | exact absurd h (hP _ _ _)) ?_
 iterate 5 first | (refine TD.val0 (v := ?_) (by simp only [zK]; rfl) rfl (by rfl) (fun w1 => ?_) ?_; rotate_left; (next => go_simp; try with_reducible rfl); try simp only [Act.put, zL]) | (refine TD.load (v := ?_) (p := ?_) (Mod.refl _ _) (by simp only [zK]; rfl) rfl (by rfl) rfl ?_ (fun wq hSq => ?_) ?_; rotate_left 2; (next => simp only [Act.eval, zM]; try rfl); (next => have kp1q := hSq.at kp1 (fun h => h); go_simp; try with_reducible rfl); try simp only [Act.put, zL])
 (refine TD.call (f := ?f10) (args := ?r10) (Mod.refl _ _) (by simp only [zK]; rfl) rfl (by rfl) (fun w1 => ?y10) ?hsp10 ?n10; (case y10 => (go_simp; (first | with_reducible rfl | (constructor <;> with_reducible rfl)))); (case hsp10 => (intro wq hSq; have kp1q := hSq.at kp1 (fun h => h); exact (total_c x wq ((HX.out.mod0 HM1.out).mod0 hSq)).mono (fun e w' h => ⟨_, h.1, by rw [HT.out], h.2⟩))); rintro _ hC; subst hC; try simp only [Act.put, zL])
 (refine TD.allocB (by simp only [zK]; rfl) rfl (by rfl) rfl rfl alIntR (fun p3 hp3 => ?n11); try simp only [Act.put, zL])
 (refine TD.allocB (by simp only [zK]; rfl) rfl (by rfl) rfl rfl alIntR (fun p4 hp4 => ?n12); try simp only [Act.put, zL])
 obtain ⟨ne_p4_p3, hp4⟩ := Bx.set_none hp4
 (refine TD.storeB (d := ?d13) (T := ?T13) (y := ?y13) (p := ?p13) (b := ?b13) (v := ?v13) (by simp only [zK]; rfl) rfl (by rfl) ?hd13 ?hop13 ?hev13 ?hx13 ?hb13 ?htag13 (fun w1 hb1 => ?hy13) ?hn13; (case hd13 => rfl); (case hop13 => rfl); (case hev13 => (simp only [Act.eval, zM]; (try rfl))); (case hx13 => simp only [Act.eval, zM]; try rfl); (case hb13 => first | exact Bx.set_same _ _ _ | (simp only [Bx.set_ne _ (Ne.symm ne_p4_p3), Bx.set_ne _ ne_p4_p3, Bx.set_same]; rfl)); (case hy13 => (go_simp; (try first | with_reducible rfl | (rw [setCell_blk hb1]; rfl)))); try simp only [Act.put, zL])
 (refine TD.storeB (d := ?d14) (T := ?T14) (y := ?y14) (p := ?p14) (b := ?b14) (v := ?v14) (by simp only [zK]; rfl) rfl (by rfl) ?hd14 ?hop14 ?hev14 ?hx14 ?hb14 ?htag14 (fun w1 hb1 => ?hy14) ?hn14; (case hd14 => rfl); (case hop14 => rfl); (case hev14 => (simp only [Act.eval, zM]; (try rfl))); (case hx14 => simp only [Act.eval, zM]; try rfl); (case hb14 => first | exact Bx.set_same _ _ _ | (simp only [Bx.set_ne _ (Ne.symm ne_p4_p3), Bx.set_ne _ ne_p4_p3, Bx.set_same]; rfl)); (case hy14 => (go_simp; (try first | with_reducible rfl | (rw [setCell_blk hb1]; rfl)))); try simp only [Act.put, zL])
 refine TD.nil (fun w2 hr => ?_)
 replace kp1 := hr.mod.at kp1 (fun h => h)
 have kp3 := hr.box p3 _ (by first | exact Bx.set_same _ _ _ | (simp only [Bx.set_ne _ (Ne.symm ne_p4_p3), Bx.set_ne _ ne_p4_p3, Bx.set_same]; rfl)); dsimp only [Value.cells] at kp3; obtain ⟨gp3, kp3⟩ := kp3
 have kp4 := hr.box p4 _ (by first | exact Bx.set_same _ _ _ | (simp only [Bx.set_ne _ (Ne.symm ne_p4_p3), Bx.set_ne _ ne_p4_p3, Bx.set_same]; rfl)); dsimp only [Value.cells] at kp4; obtain ⟨gp4, kp4⟩ := kp4
 have HM2 := Lib.hid (HM1.out.then0 hr.mod)
 clear hr
 have HC := Lib.hid (contI_c p4 p3 x.ins.a x.ins.l x.ins.c w2 (HX.out.mod0 HM2.out).2.2.1.1 HX.out.2.2.1.2.1 (fun y => !pointP x.ks.l.length (totP (txP x)) (inP y)) (fun y hy w3 m => point1_c p4 p3 (totP (txP x)) x.ks.l.length y w3 (by rw [HT.out]; exact m.at0 kp4) (by rw [hn]; exact m.at0 kp3) (((HX.out.mod0 HM2.out).mod0 m).2.2.1.2.2 y hy).1.1 (HX.out.2.2.1.2.2 y hy).1.2))
 have hC := HC.out
 rw [HB.out] at hC
 have HC2 := Lib.hid hC
 clear hC HC
 go_wp2_with fail
 go_at_call 111
 refine HC2.out.mono ?_
 rintro e w3 ⟨rfl, m3⟩
 have m4 := HM2.out.trans m3
 go_wp2_with fail
 go_ret
 exact ⟨by first | rfl | (simp; done) | (cases b <;> rfl), m4⟩
end Go.Proofs.YtiaehkkkcaeaiaaGreatDoor
namespace Go.Proofs.YtiaehkkkcaeaiaaGreatDoor
section
variable {P : Program} {ops : Array Oper} {Q : Exit → Act → World → Prop} {T0 : Nat → Prop} {w0 : World} {κ : Nat → Nat} {υ : Nat → List Tmp}
theorem TG.soundX (hsel : ∀ (j : Nat) (p : Oper) cs b, ops[j]? = some p → p.op ≠ .select cs b)
  (hback : ∀ i o, ops[i]? = some o → ∀ e ∈ o.after, Region.binds .any e = true → e.on < i) {rest : List Nat} {E : Act → World → Prop} (hE : ∀ listed a w, Listing ops listed rest → E a w → wpAny P .any ops Q rest.length listed a w) :
  ∀ (fuel : Nat) (l : List Nat) (listed : Array Bool) (a : Act) (B : Bx) (K : Land) (w : World), l.length = fuel → (l ++ rest).Nodup → (∀ i ∈ l ++ rest, i < ops.size) → gPairsOk ops κ υ l = true →
   (∀ x ∈ l, ∀ y ∈ rest, x ≠ y ∧ (behindB ops x).testBit y = true) → Listing ops listed (l ++ rest) → Closed K →
   RG T0 w0 B K w → TG P ops (fun _ a w => E a w) T0 w0 κ υ l a B K → wpAny P .any ops Q (rest.length + fuel) listed a w := by
 intro fuel
 induction fuel with
 | zero =>
  intro l listed a B K w hl hn hlt hp hb hL hK hR h
  obtain rfl : l = [] := List.length_eq_zero_iff.1 hl
  have hte : E a w := by
   cases h with | nil h => exact h w hR
  exact hE listed a w (by simpa using hL) hte
 | succ fuel ih =>
  intro l listed a B K w hl hn hlt hp hb hL hK hR h
  refine ⟨fun hnil => ?_, fun i hi => ?_⟩
  ·exfalso
   match l, hl with
   | i :: l', _ => exact exists_ready hback hL hlt i i (by simp) (Nat.le_refl _) hnil
  ·obtain ⟨hun, o, ho, hall⟩ := mem_ready.1 hi
   have hil : i ∈ l := by
    rcases List.mem_append.1 ((hL.mem i).2 hun) with hin | hin
    ·exact hin
    ·exfalso
     clear h
     match l, hl with
     | x :: l', _ =>
      have hxy := hb x (by simp) i hin
      obtain ⟨_, hpth⟩ := (behindB_path hxy.2).resolve_left (fun e => hxy.1 e.symm)
      have hl1 := path_listed hL.closed _ x i o ho hall hpth
      have hl2 := getD_false_of_true ((hL.mem x).1 (by simp))
      rw [hl1] at hl2
      cases hl2
   obtain ⟨pre, post, rfl⟩ := List.append_of_mem hil
   obtain ⟨h1, h2⟩ := gPairsOk_split hp
   have hf := TG.front hsel ho pre a B K hK ⟨w, hR⟩ (fun x hx => by
    have := h1 x hx
    unfold gPairOk at this
    have hxo : ops[x]? = some (ops[x]'(hlt x (by simp [hx]))) := Array.getElem?_eq_getElem _
    rw [hxo, ho] at this
    simp only [Bool.or_eq_true, Bool.and_eq_true] at this
    rcases this with hpth | hok
    ·obtain ⟨_, hpth⟩ := (behindB_path hpth.2).resolve_left (fun e => by have := hpth.1; simp [e] at this)
     have hl1 := path_listed hL.closed _ x i o ho hall hpth
     have hl2 := getD_false_of_true ((hL.mem x).1 (by simp [hx]))
     rw [hl1] at hl2
     cases hl2
    ·exact ⟨_, hxo, hok.1, hok.2⟩) h
   have hl' : (pre ++ post).length = fuel := by simp at hl ⊢; omega
   have hsub : ((pre ++ post) ++ rest).Sublist ((pre ++ i :: post) ++ rest) := List.Sublist.append_right (List.Sublist.append_left (List.sublist_cons_self _ _) _) _
   have hn' : ((pre ++ post) ++ rest).Nodup := hn.sublist hsub
   have hlt' : ∀ j ∈ (pre ++ post) ++ rest, j < ops.size := fun j hj => hlt j (hsub.subset hj)
   have hb' : ∀ x ∈ pre ++ post, ∀ y ∈ rest, x ≠ y ∧ (behindB ops x).testBit y = true := fun x hx => hb x ((List.Sublist.append_left (List.sublist_cons_self i post) pre).subset hx)
   have hL' : Listing ops (listed.setIfInBounds i true) ((pre ++ post) ++ rest) := by
    have := Listing.next (pre := pre) (post := post ++ rest) (i := i) (by simpa using hL) (by simpa using hn) ho hall
    simpa using this
   rcases hf.kinds with ko | ko | ko | ko
   ·obtain ⟨v, hy, ht⟩ := hf.inv_val ko ho
    obtain ⟨T, hRT⟩ := hR
    exact YieldsIf.wpOp ho hy hRT.mod (ih _ _ _ _ _ _ hl' hn' hlt' h2 hb' hL' hK ⟨T, hRT⟩ ht)
   ·obtain ⟨hw, d, T, z, V, hd, hr, ht⟩ := hf.inv_alloc ko ho
    obtain ⟨U, hRT⟩ := hR
    have hR' : RG T0 w0 (B.set w.heap.size ⟨z, T, d⟩) K (w.alloc (.cells z T)) := ⟨U, hRT.alloc hK z T d⟩
    unfold wpOp
    simp only [ho, hw, if_true]
    refine .inl ?_
    unfold Oper.wp
    rw [hr w]
    exact ih _ _ _ _ _ _ hl' hn' hlt' h2 hb' hL' hK hR' (ht _ hRT.none ⟨_, hR'⟩)
   ·obtain ⟨hw, hd, d, T, y, p, b, hop, hev, hbb, htag, hr, ht⟩ := hf.inv_store ko ho
    obtain ⟨U, hRT⟩ := hR
    unfold wpOp
    simp only [ho, hw, if_true]
    refine .inl ?_
    unfold Oper.wp
    rw [hr w (hRT.box p b hbb).2.2]
    simp only [Oper.upon, hd]
    exact ih _ _ _ _ _ _ hl' hn' hlt' h2 hb' hL' hK ⟨U, hRT.store hK hbb _⟩ ht
   ·obtain ⟨hw, K', hE, ht⟩ := hf.inv_eff ko ho
    obtain ⟨U, hRT⟩ := hR
    exact (hE.step hRT).wp ho hw fun v w' hv => ih _ _ _ _ _ _ hl' hn' hlt' h2 hb' hL' (hE.cl v) hv (ht v ⟨w', hv⟩)
def headB (ops : Array Oper) (rest : List Nat) (i : Nat) : Bool := rest.all fun j => j == i || !(behindB ops j).testBit i
def AllE (P : Program) (ops : Array Oper) (Q : Exit → Act → World → Prop) : Nat → List Nat → Act → World → Prop
 | 0, _, a, w => Q .normal a w
 | n + 1, rest, a, w => ∀ i ∈ rest, headB ops rest i = true → wpOp P ops Q i (AllE P ops Q n (rest.erase i)) a w
theorem allE_nil {rest : List Nat} {a : Act} {w : World} (h : Q .normal a w) : AllE P ops Q 0 rest a w := h
theorem no_head {b : Bool} {p : Prop} (hf : b = false) (hb : b = true) : p := by
 rw [hf] at hb
 cases hb
theorem allE_any (hsel : ∀ (j : Nat) (p : Oper) cs b, ops[j]? = some p → p.op ≠ .select cs b)
  (hback : ∀ i o, ops[i]? = some o → ∀ e ∈ o.after, Region.binds .any e = true → e.on < i) : ∀ (n : Nat) (rest : List Nat), rest.length = n → rest.Nodup → (∀ i ∈ rest, i < ops.size) →
  ∀ (listed : Array Bool) (a : Act) (w : World), Listing ops listed rest → AllE P ops Q n rest a w → wpAny P .any ops Q n listed a w := by
 intro n
 induction n with
 | zero =>
  intro rest hl hn hlt listed a w hL h
  obtain rfl := List.length_eq_zero_iff.1 hl
  exact TE.sound (κ := fun _ => 0) hsel hback 0 [] listed a w rfl List.nodup_nil (by simp) rfl hL (.nil h)
 | succ n ih =>
  intro rest hl hn hlt listed a w hL h
  have hne : rest ≠ [] := by intro e; rw [e] at hl; cases hl
  refine ⟨fun hnil => ?_, fun i hi => ?_⟩
  ·exfalso
   obtain ⟨x, hx⟩ := List.exists_mem_of_ne_nil _ hne
   exact exists_ready hback hL hlt x x hx (Nat.le_refl _) hnil
  ·obtain ⟨hun, o, ho, hall⟩ := mem_ready.1 hi
   have hin := (hL.mem i).2 hun
   have hhead : headB ops rest i = true := by
    unfold headB
    rw [List.all_eq_true]
    intro j hj
    by_cases e : j = i
    ·simp [e]
    ·cases hb : (behindB ops j).testBit i with
     | false => simp
     | true =>
      exfalso
      obtain ⟨_, hpth⟩ := (behindB_path hb).resolve_left (fun e' => e e'.symm)
      have hl1 := path_listed hL.closed _ j i o ho hall hpth
      have hl2 := getD_false_of_true ((hL.mem j).1 hj)
      rw [hl1] at hl2
      cases hl2
   obtain ⟨pre, post, hr⟩ := List.append_of_mem hin
   have hN := Listing.next (pre := pre) (post := post) (i := i) (by rw [← hr]; exact hL) (by rw [← hr]; exact hn) ho hall
   have hq : (rest.erase i).Perm (pre ++ post) := List.Perm.cons_inv ((List.perm_cons_erase hin).symm.trans (by rw [hr]; exact List.perm_middle))
   refine wpOp_mono (fun a' w' hk => ?_) (h i hin hhead)
   refine ih (rest.erase i) (by rw [List.length_erase_of_mem hin]; omega) (hn.erase i) (fun x hx => hlt x (List.mem_of_mem_erase hx)) _ a' w' ⟨hN.size, fun x => (hq.mem_iff).trans (hN.mem x), hN.closed⟩ hk
def xRegOk (ops : Array Oper) (κ : Nat → Nat) (υ : Nat → List Tmp) (l rest : List Nat) : Bool :=
 Region.noSelect ops && ((List.range ops.size).all fun i => match ops[i]? with | none => false | some o => o.after.all fun e => !Region.binds .any e || decide (e.on < i)) &&
 (decide (rest.length + l.length = ops.size) && ((l ++ rest).all (fun i => decide (i < ops.size)) && ((List.range ops.size).all fun i => (l ++ rest).contains i))) &&
 (decide (l ++ rest).Nodup && gPairsOk ops κ υ l &&
  l.all (fun x => rest.all fun y => !(x == y) && (behindB ops x).testBit y))
theorem x_any {a : Act} {w1 : World} {K : Land} (l rest : List Nat) (hok : xRegOk ops κ υ l rest = true) (hK : Closed K) (hR : RG T0 w0 Bx.nil K w1)
  (h : TG P ops (fun _ a w => AllE P ops Q rest.length rest a w) T0 w0 κ υ l a Bx.nil K) : wpAny P .any ops Q ops.size (Array.replicate ops.size false) a w1 := by
 simp only [xRegOk, Bool.and_eq_true, List.all_eq_true, decide_eq_true_eq] at hok
 obtain ⟨⟨⟨h1, h2⟩, h3, h4, h5⟩, ⟨hnd, h6⟩, h8⟩ := hok
 have hback : ∀ i o, ops[i]? = some o → ∀ e ∈ o.after, Region.binds .any e = true → e.on < i := fun i o ho e he hb => by
  have := h2 i (List.mem_range.2 (Array.getElem?_eq_some_iff.1 ho).1)
  rw [ho] at this
  have := Array.all_eq_true_iff_forall_mem.1 this e he
  simpa [hb] using this
 rw [← h3]
 have hnr : rest.Nodup := (List.nodup_append.1 hnd).2.1
 refine TG.soundX (Region.noSelect_spec h1) hback (fun listed a w hL hE => allE_any (Region.noSelect_spec h1) hback rest.length rest rfl hnr (fun i hi => h4 i (List.mem_append_right _ hi)) listed a w hL hE) _ l _ a _ _ _ rfl hnd h4 h6 (fun x hx y hy => ?_) ?_ hK hR h
 ·have := h8 x hx y hy
  exact ⟨by simpa using this.1, this.2⟩
 ·rw [h3]
  refine ⟨by simp, fun i => ?_, fun i o hi => ?_⟩
  ·constructor
   ·intro hi
    have := h4 i hi
    simp [this]
   ·intro hi
    have : i < ops.size := by
     rcases Nat.lt_or_ge i ops.size with h' | h'
     ·exact h'
     ·simp [Nat.not_lt.2 h'] at hi
    simpa using h5 i (List.mem_range.2 this)
  ·exfalso
   have : (Array.replicate ops.size false).getD i false = false := by
    by_cases h' : i < ops.size
    ·simp [h']
    ·simp [h']
   rw [this] at hi
   cases hi
theorem wp_xpass {id : Nat} {a : Act} {w : World} {K : Land} (l rest : List Nat) (hm : P.follows .mixedOrders = true) (hok : xRegOk ops κ υ l rest = true) (hK : Closed K) (hk : K T0 w) (hlt : ∀ i, T0 i → i < w.heap.size)
  (h : TG P ops (fun _ a w => AllE P ops Q rest.length rest a w) T0 w κ υ l a Bx.nil K) : (Code.region id ops true).wp P Q a w :=
 wp_region_any hm (x_any l rest hok hK ⟨T0, hK T0 w w.drew hk (Mod.refl _ w).drew, hlt, fun _ _ h => h, (Mod.refl _ w).drew, fun _ _ hh => by cases hh⟩ h)
end
end Go.Proofs.YtiaehkkkcaeaiaaGreatDoor
namespace Go.Proofs.YtiaehkkkcaeaiaaGreatDoor
open Go.RowKit
open Go.ChangeMaps (setBlock)
attribute [local go_sem ↓] wlKey ldKey stKey ldSg stSg wlTc ldTc stTc eqKey1
attribute [local go_sem] cell_blk frozen_blk kc_ext one_int one_bool one_ptr one_slice one_map kc_one kc_one0 kc_size zKey_size sgc_size sgc_ext sgc_one0 sgc_one' txr_size txr_all txr_one txr_one' txr0 txr38 txr39 txr0' txr38' txr39' zTx_size Value.cells
attribute [local go_sem ↓] wlLo ldLo stLo wlIn ldIn stIn
attribute [local go_sem] txr2 txr5 txr2' txr5' txr_hd
theorem keyTR : KeyT Tryz.prog 82 kv := keyIs.keyT
def nv (n : Nat) : Value := .int .i64 (n : Int)
theorem fresh1 (w : World) (a : Obj) : (w.alloc a).heap[w.heap.size]? = some a := by
 unfold World.alloc
 rw [Array.getElem?_push, if_pos rfl]
theorem nv_zero (w : World) : (zeroValue 3).run Tryz.prog w = .ok (nv 0) w := by kernel_rfl
def cntM (l : List Key) : List (Key × Nat) := l.foldl (fun m k => put k ((lkp k m).getD 0 + 1) m) []
theorem cntM_snoc (l : List Key) (k : Key) : cntM (l ++ [k]) = put k ((lkp k (cntM l)).getD 0 + 1) (cntM l) := by simp [cntM]
theorem put_length {ν : Type} (k : Key) (v : ν) (m : List (Key × ν)) : (put k v m).length = if (lkp k m).isSome then m.length else m.length + 1 := by
 induction m with
 | nil => rfl
 | cons p r ih =>
  unfold put lkp
  by_cases h : p.1 = k
  ·simp [h]
  ·simp only [if_neg h, List.length_cons, ih]
   split <;> simp
theorem snocInd {α : Type} {P : List α → Prop} (h0 : P []) (h1 : ∀ l x, P l → P (l ++ [x])) (l : List α) : P l := by
 have : ∀ l : List α, P l.reverse := fun l => by
  induction l with
  | nil => exact h0
  | cons x l ih => rw [List.reverse_cons]; exact h1 _ _ ih
 have h := this l.reverse
 rwa [List.reverse_reverse] at h
theorem cntM_lkp (l : List Key) (k : Key) : lkp k (cntM l) = if k ∈ l then some (l.count k) else none := by
 induction l using snocInd with
 | h0 => rfl
 | h1 l x ih =>
  rw [cntM_snoc, lkp_put]
  by_cases h : k = x
  ·subst h
   rw [if_pos rfl, ih]
   by_cases hm : k ∈ l
   ·simp [hm]
   ·simp [hm, List.count_eq_zero.2 hm]
  ·rw [if_neg h, ih]
   have hx : (x == k) = false := by simp; exact fun e => h e.symm
   simp [h, List.count_singleton, hx]
theorem cntM_len (l : List Key) : (cntM l).length ≤ l.length ∧ ((cntM l).length = l.length ↔ l.Nodup) := by
 induction l using snocInd with
 | h0 => simp [cntM]
 | h1 l x ih =>
  rw [cntM_snoc, put_length, cntM_lkp]
  have hn : (l ++ [x]).Nodup ↔ l.Nodup ∧ x ∉ l := by
   rw [List.nodup_append]
   simp
   intro _
   constructor
   ·exact fun h hx => h x hx rfl
   ·exact fun h a ha e => h (e ▸ ha)
  rw [hn, List.length_append, List.length_singleton]
  by_cases hm : x ∈ l
  ·simp [hm]
   omega
  ·simp [hm]
   exact ⟨ih.1, ih.2⟩
set_option maxRecDepth 20000 in
set_option maxHeartbeats 3200000 in
theorem once_c (x : RdR) (w : World) (h : TxRd w x) : Calls Tryz.prog 71 #[.agg (txr x)] w fun e w' => e = .returned (.bool (onceP (txP x))) ∧ Mod (fun _ => False) w w' := by
 have HX := Lib.hid h
 clear h
 have hP : onceP (txP x) = decide ((cntM x.ks.l).length = x.ks.l.length) := decide_eq_decide.2 (cntM_len x.ks.l).2.symm
 rw [hP]
 obtain ⟨n, hn⟩ : ∃ n, x.ks.l.length = n := ⟨_, rfl⟩
 have hbn : n ≤ 1000000 := by rw [← hn]; exact HX.out.2.1.2
 have HN := Lib.hid hn
 obtain ⟨t, ht⟩ : ∃ t, (cntM x.ks.l).length = t := ⟨_, rfl⟩
 have HTT := Lib.hid ht
 rw [hn, ht]
 clear ht hP
 have hmm := @run_makeMap Tryz.prog
 go_enter Tryz.func71, Tryz.ntmps71
 go_upto_region 0 with fail
 refine wp_pass0 (C := fun _ _ _ => False) (κ := fun i => [3, 0].getD i 0) [0, 1] (by kernel_rfl) (by kernel_rfl) (fun _ _ d _ _ h => by cases d <;> first | exact h | exact absurd h (hP _ _ _)) ?_
 (refine TD.box (v := ?v1) (by simp only [zK]; rfl) rfl (by rfl) rfl rfl ?hx1 (fun p1 hp1 => ?n1); (case hx1 => simp only [Act.eval, zM]; try rfl); try simp only [Act.put, zL])
 (refine TD.val0 (v := ?_) (by simp only [zK]; rfl) rfl (by rfl) (fun w1 => ?_) ?_; rotate_left; (next => go_simp; try with_reducible rfl); try simp only [Act.put, zL])
 refine TD.nil (fun w1 hr => ?_)
 have kp1 := hr.box p1 _ (by first | exact Bx.set_same _ _ _ | (simp only [Bx.set_same]; rfl)); dsimp only [Value.cells] at kp1; obtain ⟨gp1, kp1⟩ := kp1
 have m1 := hr.mod
 clear hr
 go_upto_region 2 with fail
 have km : (w1.alloc (.map #[] 0)).heap[w1.heap.size]? = some (.map #[] 0) := fresh1 _ _
 have m2 : Mod (fun _ => False) w1 (w1.alloc (.map #[] 0)) := (Mod.refl _ _).alloc _
 have hp1q : p1 < w1.heap.size := lt_size kp1
 have kp1' := m2.at0 kp1
 clear kp1
 have kp1 := kp1'
 clear kp1'
 generalize w1.alloc (.map #[] 0) = w2 at *
 have hq : w.heap.size ≤ w1.heap.size := m1.size
 generalize w1.heap.size = q at *
 have HM2 := Lib.hid (m1.then0 m2)
 clear m1 m2 hmm
 go_wp2_with fail
 go_loopw [11] (fun s11 ws => ∃ i : Nat, i ≤ n ∧ s11 = .int .i64 (i : Int) ∧ (∃ es c, ws.heap[q]? = some (.map es c) ∧ Hid (MapIs kv nv es c (cntM (x.ks.l.take i)))) ∧ Mod (fun j => j = q) w2 ws) (fun s11 _ => n - (intOf s11).toNat)
 case atStart => exact ⟨0, by omega, rfl, ⟨_, _, km, Lib.hid (MapIs.empty kv nv)⟩, Mod.refl _ _⟩
 case round =>
  clear km
  obtain ⟨i, hi, rfl, ⟨es1, cl1, km, HM⟩, hm⟩ := hrel
  have kp1 := hm.at kp1 (by omega)
  have HM3 : Hid (Mod (fun j => j = q) w wr) := Lib.hid ((HM2.out.mono (fun _ _ h => h.elim)).trans hm)
  by_cases hlt : i < n
  ·have hd := decide_eq_true hlt
   obtain ⟨k, hk⟩ : ∃ k, x.ks.l[i]? = some k := ⟨_, List.getElem?_eq_getElem (by have := HN.out; omega)⟩
   obtain ⟨g, o, C, U, fr, ha, kl0, he, hle⟩ := HX.out.2.1.1.block hk
   have hg := lt_size kl0
   have kl := HM3.out.at kl0 (by omega)
   have HQB := Lib.hid (lt_size km)
   clear kl0 hg
   go_upto_region 4 with fail
   have Lkl := lt_size kl
   have Lkm := lt_size km
   have Lkp1 := lt_size kp1
   refine wp_pass0 (C := fun _ _ _ => False) (κ := fun i => [0, 1, 3, 4].getD i 0) [0, 1, 2, 3] (by kernel_rfl) (by kernel_rfl) (fun _ _ d _ _ h => by cases d <;> first | exact h | exact absurd h (hP _ _ _)) ?_
   (refine TD.val0 (v := ?_) (by simp only [zK]; rfl) rfl (by rfl) (fun w1 => ?_) ?_; rotate_left; (next => go_simp; try with_reducible rfl); try simp only [Act.put, zL])
   (refine TD.load (v := ?_) (p := ?_) (Mod.refl _ _) (by simp only [zK]; rfl) rfl (by rfl) rfl ?_ (fun wq hSq => ?_) ?_; rotate_left 2; (next => simp only [Act.eval, zM]; try rfl); (next => have klq := hSq.at kl (fun h => h); have kmq := hSq.at km (fun h => h); have kp1q := hSq.at kp1 (fun h => h); go_simp; try with_reducible rfl); try simp only [Act.put, zL])
   (refine TD.allocB (by simp only [zK]; rfl) rfl (by rfl) rfl rfl alKey (fun p5 hp5 => ?n5); try simp only [Act.put, zL])
   (refine TD.storeB (d := ?d6) (T := ?T6) (y := ?y6) (p := ?p6) (b := ?b6) (v := ?v6) (by simp only [zK]; rfl) rfl (by rfl) ?hd6 ?hop6 ?hev6 ?hx6 ?hb6 ?htag6 (fun w1 hb1 => ?hy6) ?hn6; (case hd6 => rfl); (case hop6 => rfl); (case hev6 => (simp only [Act.eval, zM]; (try rfl))); (case hx6 => simp only [Act.eval, zM]; try rfl); (case hb6 => first | exact Bx.set_same _ _ _ | (simp only [Bx.set_same]; rfl)); (case hy6 => (go_simp; (try first | with_reducible rfl | (rw [setCell_blk hb1]; rfl)))); try simp only [Act.put, zL])
   refine TD.nil (fun w3 hr => ?_)
   replace kl := hr.mod.at kl (fun h => h)
   replace km := hr.mod.at km (fun h => h)
   replace kp1 := hr.mod.at kp1 (fun h => h)
   have kp5 := hr.box p5 _ (by first | exact Bx.set_same _ _ _ | (simp only [Bx.set_same]; rfl)); dsimp only [Value.cells] at kp5; obtain ⟨gp5, kp5⟩ := kp5
   have HM4 : Hid (Mod (fun j => j = q) w2 w3) := Lib.hid (hm.then0 hr.mod)
   have hp5 : p5 ≠ q := by have := HQB.out; omega
   clear hr he hle kl hm
   obtain ⟨c, hc⟩ : ∃ c, (lkp k (cntM (x.ks.l.take i))).getD 0 = c := ⟨_, rfl⟩
   have hcb : c ≤ 1000000 := by
    rw [← hc, cntM_lkp]
    split
    ·have h1 := List.count_le_length (a := k) (l := x.ks.l.take i)
     have h2 := List.length_take_le i x.ks.l
     simp only [zE]
     omega
    ·simp
   have hwr : IntKind.i64.wrap ((c : Int) + 1) = ((c + 1 : Nat) : Int) := by rw [IntKind.wrap_i64]; omega
   have HT1 : Hid (cntM (x.ks.l.take (i + 1)) = put k (c + 1) (cntM (x.ks.l.take i))) := Lib.hid (by rw [List.take_add_one, hk, ← hc]; exact cntM_snoc _ _)
   have hlk : ∀ wq es cl, wq.heap[q]? = some (.map es cl) → MapIs kv nv es cl (cntM (x.ks.l.take i)) ∨ MapIs kv nv es cl (put k c (cntM (x.ks.l.take i))) → (Instr.lookup 148 (.map (some q)) (.agg (kc k)) false).run Tryz.prog wq = .ok (.int .i64 (c : Int)) wq := fun wq es cl hq hM => by
    rcases hM with hM | hM
    ·have := hM.lookupD keyTR Tryz.underlying148 (z := 0) nv_zero wq hq k
     rw [hc] at this
     exact this
    ·have := hM.lookupD keyTR Tryz.underlying148 (z := 0) nv_zero wq hq k
     rw [lkp_put_same, zE] at this
     exact this
   have HLK := Lib.hid hlk
   have hen := fun (wq : World) (hq : wq.heap[q]? = some (.map es1 cl1)) => HM.out.entry keyTR Tryz.underlying148 (z := 0) nv_zero wq hq k
   simp only [hc] at hen
   have HEN := Lib.hid hen
   clear hlk hen hc hk ha
   go_upto_region 5 with fail
   have Lkp5 := lt_size kp5
   have Lkm := lt_size km
   have Lkp1 := lt_size kp1
   refine wp_xpass (T0 := fun _ => False) (K := fun _ _ => True) (κ := fun i => [0, 0, 6, 0, 6, 0, 6].getD i 0) (υ := fun i => [[], [], [], [], [], [], []].getD i []) [0, 1] [2, 3, 4, 5, 6] (by kernel_rfl) (by kernel_rfl) (Good.true).cl (trivial) (fun _ h => h.elim) ?_
   have gK := Good.true
   (refine TG.v0 (v := ?_) (by simp only [zK]; rfl) rfl (by rfl) (fun w1 => ?_) ?_; rotate_left; (next => go_simp; try with_reducible rfl); try simp only [Act.put, zL])
   (refine TG.load (v := ?v8) (p := ?p8) (by simp only [zK]; rfl) rfl (by rfl) rfl ?hx8 (fun wq hSq => ?y8) ?n8; (case hx8 => simp only [Act.eval, zM]; try rfl); (case y8 => (have kp5q := hSq.at kp5 (fun h => h); have kmq := hSq.at km (fun h => h); have kp1q := hSq.at kp1 (fun h => h); go_simp; (try with_reducible rfl))); try simp only [Act.put, zL])
   refine TG.nil (fun w6 ⟨TR, hr⟩ => ?_)
   replace kp5 := hr.mod.at kp5 (fun h => h)
   replace km := hr.mod.at km (fun h => h)
   replace kp1 := hr.mod.at kp1 (fun h => h)
   clear gK
   have HM6 := Lib.hid (HM4.out.then0 hr.mod)
   obtain ⟨st, es2, cl2, hrE, M2, hF⟩ := HEN.out w6 km
   have hl6 := HLK.out w6 _ _ km (.inl HM.out)
   have km7 := heap_setBlock w6 (.map es2 cl2) (lt_size km)
   have mS7 := mod_set w6 q (.map es2 cl2)
   generalize setBlock w6 q (.map es2 cl2) = w7 at *
   have hl7 := HLK.out w7 _ _ km7 (.inr M2)
   obtain ⟨es3, cl3, hrF, M3⟩ := hF w7 (c + 1) km7
   have km8 := heap_setBlock w7 (.map es3 cl3) (lt_size km7)
   have mS8 := mod_set w7 q (.map es3 cl3)
   generalize setBlock w7 q (.map es3 cl3) = w8 at *
   have HEND : Hid ((∃ es cl, w8.heap[q]? = some (.map es cl) ∧ Hid (MapIs kv nv es cl (cntM (x.ks.l.take (i + 1))))) ∧ Mod (fun j => j = q) w2 w8) := Lib.hid ⟨⟨_, _, km8, Lib.hid (by rw [HT1.out]; exact M3)⟩, (HM6.out.then mS7 (fun _ _ h => h)).then mS8 (fun _ _ h => h)⟩
   simp only [nv] at hrE hrF
   (intro iA hiA hbA; simp only [List.mem_cons, List.not_mem_nil, or_false] at hiA; rcases hiA with rfl | rfl | rfl | rfl | rfl)
   ·clear hbA
    (refine eff_look (by simp only [zK]; rfl) (by rfl) rfl ?hx9 ?hz9 (by first | exact hl6 | exact hl7) ?n9; (case hx9 => simp only [Act.eval, zM]; try rfl); (case hz9 => simp only [Act.eval, zM]; try rfl); try simp only [Act.put, zL])
    rw [show ([2, 3, 4, 5, 6] : List Nat).erase 2 = [3, 4, 5, 6] from rfl]
    (intro iA hiA hbA; simp only [List.mem_cons, List.not_mem_nil, or_false] at hiA; rcases hiA with rfl | rfl | rfl | rfl)
    ·clear hbA
     (refine eff_value (v := ?v10) (w' := ?w10) (by simp only [zK]; rfl) (by rfl) ?y10 ?n10; (case y10 => (go_simp; (try (first | with_reducible rfl | (constructor <;> with_reducible rfl))))); try simp only [Act.put, zL])
     rw [show ([3, 4, 5, 6] : List Nat).erase 3 = [4, 5, 6] from rfl]
     (intro iA hiA hbA; simp only [List.mem_cons, List.not_mem_nil, or_false] at hiA; rcases hiA with rfl | rfl | rfl)
     ·clear hbA
      (refine eff_entry (by simp only [zK]; rfl) (by rfl) rfl ?hx11 ?hz11 hrE ?n11; (case hx11 => simp only [Act.eval, zM]; try rfl); (case hz11 => simp only [Act.eval, zM]; try rfl); try simp only [Act.put, zL])
      rw [show ([4, 5, 6] : List Nat).erase 4 = [5, 6] from rfl]
      (intro iA hiA hbA; simp only [List.mem_cons, List.not_mem_nil, or_false] at hiA; rcases hiA with rfl | rfl)
      ·clear hbA
       (refine eff_value (v := ?v12) (w' := ?w12) (by simp only [zK]; rfl) (by rfl) ?y12 ?n12; (case y12 => (go_simp; (try (first | with_reducible rfl | (constructor <;> with_reducible rfl))))); try simp only [Act.put, zL])
       rw [show ([5, 6] : List Nat).erase 5 = [6] from rfl]
       (intro iA hiA hbA; simp only [List.mem_cons, List.not_mem_nil, or_false] at hiA; subst hiA)
       ·clear hbA
        (refine eff_estore (by simp only [zK]; rfl) (by rfl) rfl ?hx13 ?hz13 ?hv13 hrF ?n13; (case hx13 => simp only [Act.eval, zM]; try rfl); (case hz13 => simp only [Act.eval, zM]; try rfl); (case hv13 => (simp only [Act.eval, zM]; (try rfl))); try simp only [Act.put, zL])
        rw [show ([6] : List Nat).erase 6 = [] from rfl]
        refine allE_nil ?_
        go_wp2_with fail; go_roundw; (exact ⟨i + 1, by omega, by go_num, HEND.out.1, HEND.out.2⟩); (simp [intOf]; omega)
      ·exact no_head (by kernel_rfl) hbA
     ·exact no_head (by kernel_rfl) hbA
     ·exact no_head (by kernel_rfl) hbA
    ·clear hbA
     (refine eff_entry (by simp only [zK]; rfl) (by rfl) rfl ?hx14 ?hz14 hrE ?n14; (case hx14 => simp only [Act.eval, zM]; try rfl); (case hz14 => simp only [Act.eval, zM]; try rfl); try simp only [Act.put, zL])
     rw [show ([3, 4, 5, 6] : List Nat).erase 4 = [3, 5, 6] from rfl]
     (intro iA hiA hbA; simp only [List.mem_cons, List.not_mem_nil, or_false] at hiA; rcases hiA with rfl | rfl | rfl)
     ·clear hbA
      (refine eff_value (v := ?v15) (w' := ?w15) (by simp only [zK]; rfl) (by rfl) ?y15 ?n15; (case y15 => (go_simp; (try (first | with_reducible rfl | (constructor <;> with_reducible rfl))))); try simp only [Act.put, zL])
      rw [show ([3, 5, 6] : List Nat).erase 3 = [5, 6] from rfl]
      (intro iA hiA hbA; simp only [List.mem_cons, List.not_mem_nil, or_false] at hiA; rcases hiA with rfl | rfl)
      ·clear hbA
       (refine eff_value (v := ?v16) (w' := ?w16) (by simp only [zK]; rfl) (by rfl) ?y16 ?n16; (case y16 => (go_simp; (try (first | with_reducible rfl | (constructor <;> with_reducible rfl))))); try simp only [Act.put, zL])
       rw [show ([5, 6] : List Nat).erase 5 = [6] from rfl]
       (intro iA hiA hbA; simp only [List.mem_cons, List.not_mem_nil, or_false] at hiA; subst hiA)
       ·clear hbA
        (refine eff_estore (by simp only [zK]; rfl) (by rfl) rfl ?hx17 ?hz17 ?hv17 hrF ?n17; (case hx17 => simp only [Act.eval, zM]; try rfl); (case hz17 => simp only [Act.eval, zM]; try rfl); (case hv17 => (simp only [Act.eval, zM]; (try rfl))); try simp only [Act.put, zL])
        rw [show ([6] : List Nat).erase 6 = [] from rfl]
        refine allE_nil ?_
        go_wp2_with fail; go_roundw; (exact ⟨i + 1, by omega, by go_num, HEND.out.1, HEND.out.2⟩); (simp [intOf]; omega)
      ·exact no_head (by kernel_rfl) hbA
     ·clear hbA
      (refine eff_value (v := ?v18) (w' := ?w18) (by simp only [zK]; rfl) (by rfl) ?y18 ?n18; (case y18 => (go_simp; (try (first | with_reducible rfl | (constructor <;> with_reducible rfl))))); try simp only [Act.put, zL])
      rw [show ([3, 5, 6] : List Nat).erase 5 = [3, 6] from rfl]
      (intro iA hiA hbA; simp only [List.mem_cons, List.not_mem_nil, or_false] at hiA; rcases hiA with rfl | rfl)
      ·clear hbA
       (refine eff_value (v := ?v19) (w' := ?w19) (by simp only [zK]; rfl) (by rfl) ?y19 ?n19; (case y19 => (go_simp; (try (first | with_reducible rfl | (constructor <;> with_reducible rfl))))); try simp only [Act.put, zL])
       rw [show ([3, 6] : List Nat).erase 3 = [6] from rfl]
       (intro iA hiA hbA; simp only [List.mem_cons, List.not_mem_nil, or_false] at hiA; subst hiA)
       ·clear hbA
        (refine eff_estore (by simp only [zK]; rfl) (by rfl) rfl ?hx20 ?hz20 ?hv20 hrF ?n20; (case hx20 => simp only [Act.eval, zM]; try rfl); (case hz20 => simp only [Act.eval, zM]; try rfl); (case hv20 => (simp only [Act.eval, zM]; (try rfl))); try simp only [Act.put, zL])
        rw [show ([6] : List Nat).erase 6 = [] from rfl]
        refine allE_nil ?_
        go_wp2_with fail; go_roundw; (exact ⟨i + 1, by omega, by go_num, HEND.out.1, HEND.out.2⟩); (simp [intOf]; omega)
      ·exact no_head (by kernel_rfl) hbA
     ·exact no_head (by kernel_rfl) hbA
    ·exact no_head (by kernel_rfl) hbA
    ·exact no_head (by kernel_rfl) hbA
   ·exact no_head (by kernel_rfl) hbA
   ·clear hbA
    (refine eff_entry (by simp only [zK]; rfl) (by rfl) rfl ?hx21 ?hz21 hrE ?n21; (case hx21 => simp only [Act.eval, zM]; try rfl); (case hz21 => simp only [Act.eval, zM]; try rfl); try simp only [Act.put, zL])
    rw [show ([2, 3, 4, 5, 6] : List Nat).erase 4 = [2, 3, 5, 6] from rfl]
    (intro iA hiA hbA; simp only [List.mem_cons, List.not_mem_nil, or_false] at hiA; rcases hiA with rfl | rfl | rfl | rfl)
    ·clear hbA
     (refine eff_look (by simp only [zK]; rfl) (by rfl) rfl ?hx22 ?hz22 (by first | exact hl6 | exact hl7) ?n22; (case hx22 => simp only [Act.eval, zM]; try rfl); (case hz22 => simp only [Act.eval, zM]; try rfl); try simp only [Act.put, zL])
     rw [show ([2, 3, 5, 6] : List Nat).erase 2 = [3, 5, 6] from rfl]
     (intro iA hiA hbA; simp only [List.mem_cons, List.not_mem_nil, or_false] at hiA; rcases hiA with rfl | rfl | rfl)
     ·clear hbA
      (refine eff_value (v := ?v23) (w' := ?w23) (by simp only [zK]; rfl) (by rfl) ?y23 ?n23; (case y23 => (go_simp; (try (first | with_reducible rfl | (constructor <;> with_reducible rfl))))); try simp only [Act.put, zL])
      rw [show ([3, 5, 6] : List Nat).erase 3 = [5, 6] from rfl]
      (intro iA hiA hbA; simp only [List.mem_cons, List.not_mem_nil, or_false] at hiA; rcases hiA with rfl | rfl)
      ·clear hbA
       (refine eff_value (v := ?v24) (w' := ?w24) (by simp only [zK]; rfl) (by rfl) ?y24 ?n24; (case y24 => (go_simp; (try (first | with_reducible rfl | (constructor <;> with_reducible rfl))))); try simp only [Act.put, zL])
       rw [show ([5, 6] : List Nat).erase 5 = [6] from rfl]
       (intro iA hiA hbA; simp only [List.mem_cons, List.not_mem_nil, or_false] at hiA; subst hiA)
       ·clear hbA
        (refine eff_estore (by simp only [zK]; rfl) (by rfl) rfl ?hx25 ?hz25 ?hv25 hrF ?n25; (case hx25 => simp only [Act.eval, zM]; try rfl); (case hz25 => simp only [Act.eval, zM]; try rfl); (case hv25 => (simp only [Act.eval, zM]; (try rfl))); try simp only [Act.put, zL])
        rw [show ([6] : List Nat).erase 6 = [] from rfl]
        refine allE_nil ?_
        go_wp2_with fail; go_roundw; (exact ⟨i + 1, by omega, by go_num, HEND.out.1, HEND.out.2⟩); (simp [intOf]; omega)
      ·exact no_head (by kernel_rfl) hbA
     ·clear hbA
      (refine eff_value (v := ?v26) (w' := ?w26) (by simp only [zK]; rfl) (by rfl) ?y26 ?n26; (case y26 => (go_simp; (try (first | with_reducible rfl | (constructor <;> with_reducible rfl))))); try simp only [Act.put, zL])
      rw [show ([3, 5, 6] : List Nat).erase 5 = [3, 6] from rfl]
      (intro iA hiA hbA; simp only [List.mem_cons, List.not_mem_nil, or_false] at hiA; rcases hiA with rfl | rfl)
      ·clear hbA
       (refine eff_value (v := ?v27) (w' := ?w27) (by simp only [zK]; rfl) (by rfl) ?y27 ?n27; (case y27 => (go_simp; (try (first | with_reducible rfl | (constructor <;> with_reducible rfl))))); try simp only [Act.put, zL])
       rw [show ([3, 6] : List Nat).erase 3 = [6] from rfl]
       (intro iA hiA hbA; simp only [List.mem_cons, List.not_mem_nil, or_false] at hiA; subst hiA)
       ·clear hbA
        (refine eff_estore (by simp only [zK]; rfl) (by rfl) rfl ?hx28 ?hz28 ?hv28 hrF ?n28; (case hx28 => simp only [Act.eval, zM]; try rfl); (case hz28 => simp only [Act.eval, zM]; try rfl); (case hv28 => (simp only [Act.eval, zM]; (try rfl))); try simp only [Act.put, zL])
        rw [show ([6] : List Nat).erase 6 = [] from rfl]
        refine allE_nil ?_
        go_wp2_with fail; go_roundw; (exact ⟨i + 1, by omega, by go_num, HEND.out.1, HEND.out.2⟩); (simp [intOf]; omega)
      ·exact no_head (by kernel_rfl) hbA
     ·exact no_head (by kernel_rfl) hbA
    ·exact no_head (by kernel_rfl) hbA
    ·clear hbA
     (refine eff_value (v := ?v29) (w' := ?w29) (by simp only [zK]; rfl) (by rfl) ?y29 ?n29; (case y29 => (go_simp; (try (first | with_reducible rfl | (constructor <;> with_reducible rfl))))); try simp only [Act.put, zL])
     rw [show ([2, 3, 5, 6] : List Nat).erase 5 = [2, 3, 6] from rfl]
     (intro iA hiA hbA; simp only [List.mem_cons, List.not_mem_nil, or_false] at hiA; rcases hiA with rfl | rfl | rfl)
     ·clear hbA
      (refine eff_look (by simp only [zK]; rfl) (by rfl) rfl ?hx30 ?hz30 (by first | exact hl6 | exact hl7) ?n30; (case hx30 => simp only [Act.eval, zM]; try rfl); (case hz30 => simp only [Act.eval, zM]; try rfl); try simp only [Act.put, zL])
      rw [show ([2, 3, 6] : List Nat).erase 2 = [3, 6] from rfl]
      (intro iA hiA hbA; simp only [List.mem_cons, List.not_mem_nil, or_false] at hiA; rcases hiA with rfl | rfl)
      ·clear hbA
       (refine eff_value (v := ?v31) (w' := ?w31) (by simp only [zK]; rfl) (by rfl) ?y31 ?n31; (case y31 => (go_simp; (try (first | with_reducible rfl | (constructor <;> with_reducible rfl))))); try simp only [Act.put, zL])
       rw [show ([3, 6] : List Nat).erase 3 = [6] from rfl]
       (intro iA hiA hbA; simp only [List.mem_cons, List.not_mem_nil, or_false] at hiA; subst hiA)
       ·clear hbA
        (refine eff_estore (by simp only [zK]; rfl) (by rfl) rfl ?hx32 ?hz32 ?hv32 hrF ?n32; (case hx32 => simp only [Act.eval, zM]; try rfl); (case hz32 => simp only [Act.eval, zM]; try rfl); (case hv32 => (simp only [Act.eval, zM]; (try rfl))); try simp only [Act.put, zL])
        rw [show ([6] : List Nat).erase 6 = [] from rfl]
        refine allE_nil ?_
        go_wp2_with fail; go_roundw; (exact ⟨i + 1, by omega, by go_num, HEND.out.1, HEND.out.2⟩); (simp [intOf]; omega)
      ·exact no_head (by kernel_rfl) hbA
     ·exact no_head (by kernel_rfl) hbA
     ·exact no_head (by kernel_rfl) hbA
    ·exact no_head (by kernel_rfl) hbA
   ·exact no_head (by kernel_rfl) hbA
   ·exact no_head (by kernel_rfl) hbA
  ·have hd := decide_eq_false hlt
   obtain rfl : n = i := by omega
   have hl := fun ty => HM.out.len (P := Tryz.prog) (ty := ty) Tryz.underlying148 wr km
   rw [List.take_of_length_le (by have := HN.out; omega)] at hl
   rw [HTT.out] at hl
   have HF : Hid (Mod (fun _ => False) w wr) := Lib.hid (HM3.out.mono (fun j h1 h2 => by have h3 : j = q := h2; omega))
   clear hm HM3
   by_cases h0 : t = n
   ·have hd1 := decide_eq_true h0
    have hd2 : decide ((t : Int) = (n : Int)) = true := decide_eq_true (by omega)
    go_wp2_with fail
    go_ret
    exact ⟨by first | rfl | (simp [h0]; done), HF.out⟩
   ·have hd1 := decide_eq_false h0
    have hd2 : decide ((t : Int) = (n : Int)) = false := decide_eq_false (by omega)
    go_wp2_with fail
    go_ret
    exact ⟨by first | rfl | (simp [h0]; done) | (simp [h0]; omega), HF.out⟩
end Go.Proofs.YtiaehkkkcaeaiaaGreatDoor
namespace Go.Proofs.YtiaehkkkcaeaiaaGreatDoor
open Go.RowKit
open Go.ChangeMaps (setBlock)
attribute [local go_sem ↓] wlKey ldKey stKey ldSg stSg wlTc ldTc stTc eqKey1
attribute [local go_sem] cell_blk frozen_blk kc_ext one_int one_bool one_ptr one_slice one_map kc_one kc_one0 kc_size zKey_size sgc_size sgc_ext sgc_one0 sgc_one' txr_size txr_all txr_one txr_one' txr0 txr38 txr39 txr0' txr38' txr39' zTx_size Value.cells
attribute [local go_sem] txr2 txr5 txr2' txr5' txr_hd
abbrev fnV (f : FuncId) : Value := .func (.func f) #[] #[]
def zRule : Array Value := #[.nilFunc, .int .i64 0]
theorem ldRule (w : World) (b o : Nat) : (Instr.loadAt 118 (.pointer (some ⟨b, o, none⟩))).run Tryz.prog w =
   match w.heap[b]? with
   | some (.cells cs _ _) => if o + 2 ≤ cs.size then .ok (.agg (cs.extract o (o + 2))) w else farL Tryz.prog w 118 b o
   | _ => farL Tryz.prog w 118 b o := load_rule (d := _) Tryz.underlying118 rfl (by kernel_rfl) w b o
theorem stRule (w : World) (b o : Nat) (xs : Array Value) : (Instr.storeAt 118 (.pointer (some ⟨b, o, none⟩)) (.agg xs)).run Tryz.prog w =
   match w.heap[b]? with
   | some (.cells cs U (0, 0)) =>
    if o + 2 ≤ cs.size ∧ xs.size = 2 ∧ xs.all (·.oneCell') = true then .ok () (setBlock w b (.cells (if o = 0 ∧ 2 = cs.size then xs else wr cs o xs.toList) U (0, 0))) else farS Tryz.prog w 118 b o (.agg xs)
   | _ => farS Tryz.prog w 118 b o (.agg xs) := store_rule (by kernel_rfl) w b o xs
theorem alRule (w : World) : (Instr.alloc 118 true (.tuple #[])).run Tryz.prog w = .ok (.pointer (some ⟨w.heap.size, 0, none⟩)) (w.alloc (.cells zRule 118)) :=
 run_alloc_row (z := .agg zRule) (fun w => by kernel_rfl) w
theorem zRule_size : zRule.size = 2 := rfl
attribute [local go_sem ↓] ldRule stRule
attribute [local go_sem] zRule_size
theorem bRule (f : FuncId) (n : Int) (w : World) : (Instr.build 118 #[(0, fnV f), (1, .int .i64 n)]).run Tryz.prog w = .ok (.agg #[fnV f, .int .i64 n]) w := by kernel_rfl
def rlC : Array Value := #[fnV 66, .int .i64 6, fnV 67, .int .i64 7, fnV 68, .int .i64 10, fnV 69, .int .i64 3, fnV 70, .int .i64 8, fnV 71, .int .i64 9]
theorem bsRules (w : World) : (Instr.buildSlice 119 6 #[(0, .agg #[fnV 66, .int .i64 6]), (1, .agg #[fnV 67, .int .i64 7]), (2, .agg #[fnV 68, .int .i64 10]), (3, .agg #[fnV 69, .int .i64 3]), (4, .agg #[fnV 70, .int .i64 8]), (5, .agg #[fnV 71, .int .i64 9])]).run Tryz.prog w = .ok (.slice (some ⟨w.heap.size, 0, none⟩) 6 6) (w.alloc (.cells rlC 118)) := by kernel_rfl
theorem rlC_size : rlC.size = 12 := rfl
theorem rlC0 : rlC.extract 0 2 = #[fnV 66, .int .i64 6] := rfl
theorem rlC1 : rlC.extract 2 4 = #[fnV 67, .int .i64 7] := rfl
theorem rlC2 : rlC.extract 4 6 = #[fnV 68, .int .i64 10] := rfl
theorem rlC3 : rlC.extract 6 8 = #[fnV 69, .int .i64 3] := rfl
theorem rlC4 : rlC.extract 8 10 = #[fnV 70, .int .i64 8] := rfl
theorem rlC5 : rlC.extract 10 12 = #[fnV 71, .int .i64 9] := rfl
theorem fn_one (f : FuncId) : (fnV f).oneCell' = true := rfl
theorem fn_one2 (f : FuncId) : (Value.func (.func f) #[] #[]).oneCell' = true := rfl
attribute [local go_sem] fn_one fn_one2
attribute [local go_sem] rlC_size rlC0 rlC1 rlC2 rlC3 rlC4 rlC5
def rP : Nat → TxP → Bool
 | 0 => signedP
 | 1 => headedP
 | 2 => lookedP
 | 3 => fewP
 | 4 => pointedP
 | _ => onceP
theorem chk_all {x : TxP} (h : ∀ j, j < 6 → rP j x = true) : chkP x = 0 := by
 have h0 : signedP x = true := h 0 (by omega)
 have h1 : headedP x = true := h 1 (by omega)
 have h2 : lookedP x = true := h 2 (by omega)
 have h3 : fewP x = true := h 3 (by omega)
 have h4 : pointedP x = true := h 4 (by omega)
 have h5 : onceP x = true := h 5 (by omega)
 simp [chkP, h0, h1, h2, h3, h4, h5]
theorem chk_a {x : TxP} (h : ∀ j, j < 0 → rP j x = true) (hf : rP 0 x = false) : chkP x = 6 := by
 have h0 : 0 < 0 → signedP x = true := h 0
 have h1 : 1 < 0 → headedP x = true := h 1
 have h2 : 2 < 0 → lookedP x = true := h 2
 have h3 : 3 < 0 → fewP x = true := h 3
 have h4 : 4 < 0 → pointedP x = true := h 4
 simp at h0 h1 h2 h3 h4
 simp [rP] at hf
 simp_all [chkP]
theorem chk_b {x : TxP} (h : ∀ j, j < 1 → rP j x = true) (hf : rP 1 x = false) : chkP x = 7 := by
 have h0 : 0 < 1 → signedP x = true := h 0
 have h1 : 1 < 1 → headedP x = true := h 1
 have h2 : 2 < 1 → lookedP x = true := h 2
 have h3 : 3 < 1 → fewP x = true := h 3
 have h4 : 4 < 1 → pointedP x = true := h 4
 simp at h0 h1 h2 h3 h4
 simp [rP] at hf
 simp_all [chkP]
theorem chk_c {x : TxP} (h : ∀ j, j < 2 → rP j x = true) (hf : rP 2 x = false) : chkP x = 10 := by
 have h0 : 0 < 2 → signedP x = true := h 0
 have h1 : 1 < 2 → headedP x = true := h 1
 have h2 : 2 < 2 → lookedP x = true := h 2
 have h3 : 3 < 2 → fewP x = true := h 3
 have h4 : 4 < 2 → pointedP x = true := h 4
 simp at h0 h1 h2 h3 h4
 simp [rP] at hf
 simp_all [chkP]
theorem chk_d {x : TxP} (h : ∀ j, j < 3 → rP j x = true) (hf : rP 3 x = false) : chkP x = 3 := by
 have h0 : 0 < 3 → signedP x = true := h 0
 have h1 : 1 < 3 → headedP x = true := h 1
 have h2 : 2 < 3 → lookedP x = true := h 2
 have h3 : 3 < 3 → fewP x = true := h 3
 have h4 : 4 < 3 → pointedP x = true := h 4
 simp at h0 h1 h2 h3 h4
 simp [rP] at hf
 simp_all [chkP]
theorem chk_e {x : TxP} (h : ∀ j, j < 4 → rP j x = true) (hf : rP 4 x = false) : chkP x = 8 := by
 have h0 : 0 < 4 → signedP x = true := h 0
 have h1 : 1 < 4 → headedP x = true := h 1
 have h2 : 2 < 4 → lookedP x = true := h 2
 have h3 : 3 < 4 → fewP x = true := h 3
 have h4 : 4 < 4 → pointedP x = true := h 4
 simp at h0 h1 h2 h3 h4
 simp [rP] at hf
 simp_all [chkP]
theorem chk_f {x : TxP} (h : ∀ j, j < 5 → rP j x = true) (hf : rP 5 x = false) : chkP x = 9 := by
 have h0 : 0 < 5 → signedP x = true := h 0
 have h1 : 1 < 5 → headedP x = true := h 1
 have h2 : 2 < 5 → lookedP x = true := h 2
 have h3 : 3 < 5 → fewP x = true := h 3
 have h4 : 4 < 5 → pointedP x = true := h 4
 simp at h0 h1 h2 h3 h4
 simp [rP] at hf
 simp_all [chkP]
theorem rP_step {x : TxP} {i : Nat} (h : ∀ j, j < i → rP j x = true) (hi : rP i x = true) : ∀ j, j < i + 1 → rP j x = true := fun j hj => by
 by_cases e : j = i
 ·rw [e]; exact hi
 ·exact h j (by omega)
set_option maxRecDepth 20000 in
set_option maxHeartbeats 6400000 in
theorem check_c (x : RdR) (w : World) (h : TxRd w x) : Calls Tryz.prog 25 #[.agg (txr x)] w fun e w' => e = .returned (.int .i64 ((chkP (txP x) : Nat) : Int)) ∧ Mod (fun _ => False) w w' := by
 have HX := Lib.hid h
 clear h
 obtain ⟨r, hr0⟩ : ∃ r, chkP (txP x) = r := ⟨_, rfl⟩
 have hb0 := fun w => bRule 66 6 w
 have hb1 := fun w => bRule 67 7 w
 have hb2 := fun w => bRule 68 10 w
 have hb3 := fun w => bRule 69 3 w
 have hb4 := fun w => bRule 70 8 w
 have hb5 := fun w => bRule 71 9 w
 have hbs := bsRules
 clear hr0
 go_enter Tryz.func25, Tryz.ntmps25
 go_upto_region 0 with fail
 refine wp_pass0 (C := fun _ _ _ => False) (κ := fun i => [3, 0].getD i 0) [0, 1] (by kernel_rfl) (by kernel_rfl) (fun _ _ d _ _ h => by cases d <;> first | exact h | exact absurd h (hP _ _ _)) ?_
 (refine TD.box (v := ?v1) (by simp only [zK]; rfl) rfl (by rfl) rfl rfl ?hx1 (fun p1 hp1 => ?n1); (case hx1 => simp only [Act.eval, zM]; try rfl); try simp only [Act.put, zL])
 (refine TD.val0 (v := ?_) (by simp only [zK]; rfl) rfl (by rfl) (fun w1 => ?_) ?_; rotate_left; (next => go_simp; try with_reducible rfl); try simp only [Act.put, zL])
 refine TD.nil (fun w1 hr => ?_)
 have kp1 := hr.box p1 _ (by first | exact Bx.set_same _ _ _ | (simp only [Bx.set_same]; rfl)); dsimp only [Value.cells] at kp1; obtain ⟨gp1, kp1⟩ := kp1
 have HM1 := Lib.hid hr.mod
 clear hr
 go_upto_region 1 with fail
 have Lkp1 := lt_size kp1
 refine wp_pass0 (C := fun _ _ _ => False) (κ := fun i => [0, 0, 0, 0, 0, 0, 3, 0, 0].getD i 0) [0, 1, 2, 3, 4, 5, 6, 7, 8] (by kernel_rfl) (by kernel_rfl) (fun _ _ d _ _ h => by cases d <;> first | exact h | exact absurd h (hP _ _ _)) ?_
 (refine TD.build (v := ?v3) (ps := ?p3) (by simp only [zK]; rfl) rfl (by rfl) rfl ?hx3 (fun w1 => ?y3) ?n3; (case hx3 => (simp only [List.map_toArray, List.map_cons, List.map_nil, Act.eval, zM]; (try rfl))); (case y3 => (rw [hb0]; (try with_reducible rfl))); try simp only [Act.put, zL])
 (refine TD.build (v := ?v4) (ps := ?p4) (by simp only [zK]; rfl) rfl (by rfl) rfl ?hx4 (fun w1 => ?y4) ?n4; (case hx4 => (simp only [List.map_toArray, List.map_cons, List.map_nil, Act.eval, zM]; (try rfl))); (case y4 => (rw [hb1]; (try with_reducible rfl))); try simp only [Act.put, zL])
 (refine TD.build (v := ?v5) (ps := ?p5) (by simp only [zK]; rfl) rfl (by rfl) rfl ?hx5 (fun w1 => ?y5) ?n5; (case hx5 => (simp only [List.map_toArray, List.map_cons, List.map_nil, Act.eval, zM]; (try rfl))); (case y5 => (rw [hb2]; (try with_reducible rfl))); try simp only [Act.put, zL])
 (refine TD.build (v := ?v6) (ps := ?p6) (by simp only [zK]; rfl) rfl (by rfl) rfl ?hx6 (fun w1 => ?y6) ?n6; (case hx6 => (simp only [List.map_toArray, List.map_cons, List.map_nil, Act.eval, zM]; (try rfl))); (case y6 => (rw [hb3]; (try with_reducible rfl))); try simp only [Act.put, zL])
 (refine TD.build (v := ?v7) (ps := ?p7) (by simp only [zK]; rfl) rfl (by rfl) rfl ?hx7 (fun w1 => ?y7) ?n7; (case hx7 => (simp only [List.map_toArray, List.map_cons, List.map_nil, Act.eval, zM]; (try rfl))); (case y7 => (rw [hb4]; (try with_reducible rfl))); try simp only [Act.put, zL])
 (refine TD.build (v := ?v8) (ps := ?p8) (by simp only [zK]; rfl) rfl (by rfl) rfl ?hx8 (fun w1 => ?y8) ?n8; (case hx8 => (simp only [List.map_toArray, List.map_cons, List.map_nil, Act.eval, zM]; (try rfl))); (case y8 => (rw [hb5]; (try with_reducible rfl))); try simp only [Act.put, zL])
 (refine TD.bslice (by simp only [zK]; rfl) rfl (by rfl) rfl rfl ?hx9 hbs (fun p11 hp11 => ?n9); (case hx9 => (simp only [List.map_toArray, List.map_cons, List.map_nil, Act.eval, zM]; (try rfl))); try simp only [Act.put, zL])
 iterate 2 (refine TD.val0 (v := ?_) (by simp only [zK]; rfl) rfl (by rfl) (fun w1 => ?_) ?_; rotate_left; (next => go_simp; try with_reducible rfl); try simp only [Act.put, zL])
 refine TD.nil (fun w2 hr => ?_)
 replace kp1 := hr.mod.at kp1 (fun h => h)
 have kp11 := hr.box p11 _ (by first | exact Bx.set_same _ _ _ | (simp only [Bx.set_same]; rfl)); dsimp only [Value.cells] at kp11; obtain ⟨gp11, kp11⟩ := kp11
 have HM2 := Lib.hid (HM1.out.then0 hr.mod)
 have kl := kp11
 clear hr hb0 hb1 hb2 hb3 hb4 hb5 hbs kp11
 go_wp2_with fail
 go_loopw [13] (fun s13 ws => ∃ i : Nat, i ≤ 6 ∧ s13 = .int .i64 (i : Int) ∧ Hid (∀ j, j < i → rP j (txP x) = true) ∧ Hid (Mod (fun _ => False) w ws) ∧ ws.heap[p11]? = some (.cells rlC 118 (0, 0)) ∧ ws.heap[p1]? = some (.cells (txr x) 35 (0, 0))) (fun s13 _ => 6 - (intOf s13).toNat)
 case atStart => exact ⟨0, by omega, rfl, Lib.hid (fun j hj => by omega), HM2, kl, kp1⟩
 case round =>
  clear kl kp1
  obtain ⟨i, hi, rfl, HI, HM, kl, kp1⟩ := hrel
  rcases (by omega : i = 0 ∨ i = 1 ∨ i = 2 ∨ i = 3 ∨ i = 4 ∨ i = 5 ∨ i = 6) with rfl | rfl | rfl | rfl | rfl | rfl | rfl
  ·
   obtain ⟨b, hb⟩ : ∃ b, signedP (txP x) = b := ⟨_, rfl⟩
   have HB := Lib.hid hb
   clear hb
   go_upto_region 3 with fail
   have Lkl := lt_size kl
   have Lkp1 := lt_size kp1
   refine wp_pass0 (C := fun _ _ _ => False) (κ := fun i => [0, 1, 3, 4].getD i 0) [0, 1, 2, 3] (by kernel_rfl) (by kernel_rfl) (fun _ _ d _ _ h => by cases d <;> first | exact h | exact absurd h (hP _ _ _)) ?_
   (refine TD.val0 (v := ?_) (by simp only [zK]; rfl) rfl (by rfl) (fun w1 => ?_) ?_; rotate_left; (next => go_simp; try with_reducible rfl); try simp only [Act.put, zL])
   (refine TD.load (v := ?_) (p := ?_) (Mod.refl _ _) (by simp only [zK]; rfl) rfl (by rfl) rfl ?_ (fun wq hSq => ?_) ?_; rotate_left 2; (next => simp only [Act.eval, zM]; try rfl); (next => have klq := hSq.at kl (fun h => h); have kp1q := hSq.at kp1 (fun h => h); go_simp; try with_reducible rfl); try simp only [Act.put, zL])
   (refine TD.allocB (by simp only [zK]; rfl) rfl (by rfl) rfl rfl alRule (fun p4 hp4 => ?n14); try simp only [Act.put, zL])
   (refine TD.storeB (d := ?d15) (T := ?T15) (y := ?y15) (p := ?p15) (b := ?b15) (v := ?v15) (by simp only [zK]; rfl) rfl (by rfl) ?hd15 ?hop15 ?hev15 ?hx15 ?hb15 ?htag15 (fun w1 hb1 => ?hy15) ?hn15; (case hd15 => rfl); (case hop15 => rfl); (case hev15 => (simp only [Act.eval, zM]; (try rfl))); (case hx15 => simp only [Act.eval, zM]; try rfl); (case hb15 => first | exact Bx.set_same _ _ _ | (simp only [Bx.set_same]; rfl)); (case hy15 => (go_simp; (try first | with_reducible rfl | (rw [setCell_blk hb1]; rfl)))); try simp only [Act.put, zL])
   refine TD.nil (fun w3 hr => ?_)
   replace kl := hr.mod.at kl (fun h => h)
   replace kp1 := hr.mod.at kp1 (fun h => h)
   have kp4 := hr.box p4 _ (by first | exact Bx.set_same _ _ _ | (simp only [Bx.set_same]; rfl)); dsimp only [Value.cells] at kp4; obtain ⟨gp4, kp4⟩ := kp4
   have HM3 := Lib.hid (HM.out.then0 hr.mod)
   clear hr
   go_wp2_with fail
   go_at_call 66
   refine (signed_c x _).mono ?_
   rintro e w4 ⟨rfl, m4⟩
   rw [HB.out]
   have HM4 := Lib.hid (HM3.out.trans m4)
   replace kl := m4.at0 kl
   replace kp1 := m4.at0 kp1
   replace kp4 := m4.at0 kp4
   clear m4
   cases b with
   | false =>
    have HE := Lib.hid (chk_a HI.out HB.out)
    go_wp2_with fail
    go_ret
    exact ⟨by rw [HE.out]; rfl, HM4.out⟩
   | true =>
    have HI2 := Lib.hid (rP_step HI.out HB.out)
    go_wp2_with fail
    go_roundw
    case rel => exact ⟨1, by omega, by go_num, HI2, HM4, kl, kp1⟩
    case measure => simp [intOf]
  ·
   obtain ⟨b, hb⟩ : ∃ b, headedP (txP x) = b := ⟨_, rfl⟩
   have HB := Lib.hid hb
   clear hb
   go_upto_region 3 with fail
   have Lkl := lt_size kl
   have Lkp1 := lt_size kp1
   refine wp_pass0 (C := fun _ _ _ => False) (κ := fun i => [0, 1, 3, 4].getD i 0) [0, 1, 2, 3] (by kernel_rfl) (by kernel_rfl) (fun _ _ d _ _ h => by cases d <;> first | exact h | exact absurd h (hP _ _ _)) ?_
   (refine TD.val0 (v := ?_) (by simp only [zK]; rfl) rfl (by rfl) (fun w1 => ?_) ?_; rotate_left; (next => go_simp; try with_reducible rfl); try simp only [Act.put, zL])
   (refine TD.load (v := ?_) (p := ?_) (Mod.refl _ _) (by simp only [zK]; rfl) rfl (by rfl) rfl ?_ (fun wq hSq => ?_) ?_; rotate_left 2; (next => simp only [Act.eval, zM]; try rfl); (next => have klq := hSq.at kl (fun h => h); have kp1q := hSq.at kp1 (fun h => h); go_simp; try with_reducible rfl); try simp only [Act.put, zL])
   (refine TD.allocB (by simp only [zK]; rfl) rfl (by rfl) rfl rfl alRule (fun p4 hp4 => ?n18); try simp only [Act.put, zL])
   (refine TD.storeB (d := ?d19) (T := ?T19) (y := ?y19) (p := ?p19) (b := ?b19) (v := ?v19) (by simp only [zK]; rfl) rfl (by rfl) ?hd19 ?hop19 ?hev19 ?hx19 ?hb19 ?htag19 (fun w1 hb1 => ?hy19) ?hn19; (case hd19 => rfl); (case hop19 => rfl); (case hev19 => (simp only [Act.eval, zM]; (try rfl))); (case hx19 => simp only [Act.eval, zM]; try rfl); (case hb19 => first | exact Bx.set_same _ _ _ | (simp only [Bx.set_same]; rfl)); (case hy19 => (go_simp; (try first | with_reducible rfl | (rw [setCell_blk hb1]; rfl)))); try simp only [Act.put, zL])
   refine TD.nil (fun w3 hr => ?_)
   replace kl := hr.mod.at kl (fun h => h)
   replace kp1 := hr.mod.at kp1 (fun h => h)
   have kp4 := hr.box p4 _ (by first | exact Bx.set_same _ _ _ | (simp only [Bx.set_same]; rfl)); dsimp only [Value.cells] at kp4; obtain ⟨gp4, kp4⟩ := kp4
   have HM3 := Lib.hid (HM.out.then0 hr.mod)
   clear hr
   go_wp2_with fail
   go_at_call 67
   refine (headed_c x _).mono ?_
   rintro e w4 ⟨rfl, m4⟩
   rw [HB.out]
   have HM4 := Lib.hid (HM3.out.trans m4)
   replace kl := m4.at0 kl
   replace kp1 := m4.at0 kp1
   replace kp4 := m4.at0 kp4
   clear m4
   cases b with
   | false =>
    have HE := Lib.hid (chk_b HI.out HB.out)
    go_wp2_with fail
    go_ret
    exact ⟨by rw [HE.out]; rfl, HM4.out⟩
   | true =>
    have HI2 := Lib.hid (rP_step HI.out HB.out)
    go_wp2_with fail
    go_roundw
    case rel => exact ⟨2, by omega, by go_num, HI2, HM4, kl, kp1⟩
    case measure => simp [intOf]
  ·
   obtain ⟨b, hb⟩ : ∃ b, lookedP (txP x) = b := ⟨_, rfl⟩
   have HB := Lib.hid hb
   clear hb
   go_upto_region 3 with fail
   have Lkl := lt_size kl
   have Lkp1 := lt_size kp1
   refine wp_pass0 (C := fun _ _ _ => False) (κ := fun i => [0, 1, 3, 4].getD i 0) [0, 1, 2, 3] (by kernel_rfl) (by kernel_rfl) (fun _ _ d _ _ h => by cases d <;> first | exact h | exact absurd h (hP _ _ _)) ?_
   (refine TD.val0 (v := ?_) (by simp only [zK]; rfl) rfl (by rfl) (fun w1 => ?_) ?_; rotate_left; (next => go_simp; try with_reducible rfl); try simp only [Act.put, zL])
   (refine TD.load (v := ?_) (p := ?_) (Mod.refl _ _) (by simp only [zK]; rfl) rfl (by rfl) rfl ?_ (fun wq hSq => ?_) ?_; rotate_left 2; (next => simp only [Act.eval, zM]; try rfl); (next => have klq := hSq.at kl (fun h => h); have kp1q := hSq.at kp1 (fun h => h); go_simp; try with_reducible rfl); try simp only [Act.put, zL])
   (refine TD.allocB (by simp only [zK]; rfl) rfl (by rfl) rfl rfl alRule (fun p4 hp4 => ?n22); try simp only [Act.put, zL])
   (refine TD.storeB (d := ?d23) (T := ?T23) (y := ?y23) (p := ?p23) (b := ?b23) (v := ?v23) (by simp only [zK]; rfl) rfl (by rfl) ?hd23 ?hop23 ?hev23 ?hx23 ?hb23 ?htag23 (fun w1 hb1 => ?hy23) ?hn23; (case hd23 => rfl); (case hop23 => rfl); (case hev23 => (simp only [Act.eval, zM]; (try rfl))); (case hx23 => simp only [Act.eval, zM]; try rfl); (case hb23 => first | exact Bx.set_same _ _ _ | (simp only [Bx.set_same]; rfl)); (case hy23 => (go_simp; (try first | with_reducible rfl | (rw [setCell_blk hb1]; rfl)))); try simp only [Act.put, zL])
   refine TD.nil (fun w3 hr => ?_)
   replace kl := hr.mod.at kl (fun h => h)
   replace kp1 := hr.mod.at kp1 (fun h => h)
   have kp4 := hr.box p4 _ (by first | exact Bx.set_same _ _ _ | (simp only [Bx.set_same]; rfl)); dsimp only [Value.cells] at kp4; obtain ⟨gp4, kp4⟩ := kp4
   have HM3 := Lib.hid (HM.out.then0 hr.mod)
   clear hr
   go_wp2_with fail
   go_at_call 68
   refine (looked_c x _ (HX.out.mod0 HM3.out)).mono ?_
   rintro e w4 ⟨rfl, m4⟩
   rw [HB.out]
   have HM4 := Lib.hid (HM3.out.trans m4)
   replace kl := m4.at0 kl
   replace kp1 := m4.at0 kp1
   replace kp4 := m4.at0 kp4
   clear m4
   cases b with
   | false =>
    have HE := Lib.hid (chk_c HI.out HB.out)
    go_wp2_with fail
    go_ret
    exact ⟨by rw [HE.out]; rfl, HM4.out⟩
   | true =>
    have HI2 := Lib.hid (rP_step HI.out HB.out)
    go_wp2_with fail
    go_roundw
    case rel => exact ⟨3, by omega, by go_num, HI2, HM4, kl, kp1⟩
    case measure => simp [intOf]
  ·
   obtain ⟨b, hb⟩ : ∃ b, fewP (txP x) = b := ⟨_, rfl⟩
   have HB := Lib.hid hb
   clear hb
   go_upto_region 3 with fail
   have Lkl := lt_size kl
   have Lkp1 := lt_size kp1
   refine wp_pass0 (C := fun _ _ _ => False) (κ := fun i => [0, 1, 3, 4].getD i 0) [0, 1, 2, 3] (by kernel_rfl) (by kernel_rfl) (fun _ _ d _ _ h => by cases d <;> first | exact h | exact absurd h (hP _ _ _)) ?_
   (refine TD.val0 (v := ?_) (by simp only [zK]; rfl) rfl (by rfl) (fun w1 => ?_) ?_; rotate_left; (next => go_simp; try with_reducible rfl); try simp only [Act.put, zL])
   (refine TD.load (v := ?_) (p := ?_) (Mod.refl _ _) (by simp only [zK]; rfl) rfl (by rfl) rfl ?_ (fun wq hSq => ?_) ?_; rotate_left 2; (next => simp only [Act.eval, zM]; try rfl); (next => have klq := hSq.at kl (fun h => h); have kp1q := hSq.at kp1 (fun h => h); go_simp; try with_reducible rfl); try simp only [Act.put, zL])
   (refine TD.allocB (by simp only [zK]; rfl) rfl (by rfl) rfl rfl alRule (fun p4 hp4 => ?n26); try simp only [Act.put, zL])
   (refine TD.storeB (d := ?d27) (T := ?T27) (y := ?y27) (p := ?p27) (b := ?b27) (v := ?v27) (by simp only [zK]; rfl) rfl (by rfl) ?hd27 ?hop27 ?hev27 ?hx27 ?hb27 ?htag27 (fun w1 hb1 => ?hy27) ?hn27; (case hd27 => rfl); (case hop27 => rfl); (case hev27 => (simp only [Act.eval, zM]; (try rfl))); (case hx27 => simp only [Act.eval, zM]; try rfl); (case hb27 => first | exact Bx.set_same _ _ _ | (simp only [Bx.set_same]; rfl)); (case hy27 => (go_simp; (try first | with_reducible rfl | (rw [setCell_blk hb1]; rfl)))); try simp only [Act.put, zL])
   refine TD.nil (fun w3 hr => ?_)
   replace kl := hr.mod.at kl (fun h => h)
   replace kp1 := hr.mod.at kp1 (fun h => h)
   have kp4 := hr.box p4 _ (by first | exact Bx.set_same _ _ _ | (simp only [Bx.set_same]; rfl)); dsimp only [Value.cells] at kp4; obtain ⟨gp4, kp4⟩ := kp4
   have HM3 := Lib.hid (HM.out.then0 hr.mod)
   clear hr
   go_wp2_with fail
   go_at_call 69
   refine (few_c x _ (HX.out.mod0 HM3.out)).mono ?_
   rintro e w4 ⟨rfl, m4⟩
   rw [HB.out]
   have HM4 := Lib.hid (HM3.out.trans m4)
   replace kl := m4.at0 kl
   replace kp1 := m4.at0 kp1
   replace kp4 := m4.at0 kp4
   clear m4
   cases b with
   | false =>
    have HE := Lib.hid (chk_d HI.out HB.out)
    go_wp2_with fail
    go_ret
    exact ⟨by rw [HE.out]; rfl, HM4.out⟩
   | true =>
    have HI2 := Lib.hid (rP_step HI.out HB.out)
    go_wp2_with fail
    go_roundw
    case rel => exact ⟨4, by omega, by go_num, HI2, HM4, kl, kp1⟩
    case measure => simp [intOf]
  ·
   obtain ⟨b, hb⟩ : ∃ b, pointedP (txP x) = b := ⟨_, rfl⟩
   have HB := Lib.hid hb
   clear hb
   go_upto_region 3 with fail
   have Lkl := lt_size kl
   have Lkp1 := lt_size kp1
   refine wp_pass0 (C := fun _ _ _ => False) (κ := fun i => [0, 1, 3, 4].getD i 0) [0, 1, 2, 3] (by kernel_rfl) (by kernel_rfl) (fun _ _ d _ _ h => by cases d <;> first | exact h | exact absurd h (hP _ _ _)) ?_
   (refine TD.val0 (v := ?_) (by simp only [zK]; rfl) rfl (by rfl) (fun w1 => ?_) ?_; rotate_left; (next => go_simp; try with_reducible rfl); try simp only [Act.put, zL])
   (refine TD.load (v := ?_) (p := ?_) (Mod.refl _ _) (by simp only [zK]; rfl) rfl (by rfl) rfl ?_ (fun wq hSq => ?_) ?_; rotate_left 2; (next => simp only [Act.eval, zM]; try rfl); (next => have klq := hSq.at kl (fun h => h); have kp1q := hSq.at kp1 (fun h => h); go_simp; try with_reducible rfl); try simp only [Act.put, zL])
   (refine TD.allocB (by simp only [zK]; rfl) rfl (by rfl) rfl rfl alRule (fun p4 hp4 => ?n30); try simp only [Act.put, zL])
   (refine TD.storeB (d := ?d31) (T := ?T31) (y := ?y31) (p := ?p31) (b := ?b31) (v := ?v31) (by simp only [zK]; rfl) rfl (by rfl) ?hd31 ?hop31 ?hev31 ?hx31 ?hb31 ?htag31 (fun w1 hb1 => ?hy31) ?hn31; (case hd31 => rfl); (case hop31 => rfl); (case hev31 => (simp only [Act.eval, zM]; (try rfl))); (case hx31 => simp only [Act.eval, zM]; try rfl); (case hb31 => first | exact Bx.set_same _ _ _ | (simp only [Bx.set_same]; rfl)); (case hy31 => (go_simp; (try first | with_reducible rfl | (rw [setCell_blk hb1]; rfl)))); try simp only [Act.put, zL])
   refine TD.nil (fun w3 hr => ?_)
   replace kl := hr.mod.at kl (fun h => h)
   replace kp1 := hr.mod.at kp1 (fun h => h)
   have kp4 := hr.box p4 _ (by first | exact Bx.set_same _ _ _ | (simp only [Bx.set_same]; rfl)); dsimp only [Value.cells] at kp4; obtain ⟨gp4, kp4⟩ := kp4
   have HM3 := Lib.hid (HM.out.then0 hr.mod)
   clear hr
   go_wp2_with fail
   go_at_call 70
   refine (pointed_c x _ (HX.out.mod0 HM3.out)).mono ?_
   rintro e w4 ⟨rfl, m4⟩
   rw [HB.out]
   have HM4 := Lib.hid (HM3.out.trans m4)
   replace kl := m4.at0 kl
   replace kp1 := m4.at0 kp1
   replace kp4 := m4.at0 kp4
   clear m4
   cases b with
   | false =>
    have HE := Lib.hid (chk_e HI.out HB.out)
    go_wp2_with fail
    go_ret
    exact ⟨by rw [HE.out]; rfl, HM4.out⟩
   | true =>
    have HI2 := Lib.hid (rP_step HI.out HB.out)
    go_wp2_with fail
    go_roundw
    case rel => exact ⟨5, by omega, by go_num, HI2, HM4, kl, kp1⟩
    case measure => simp [intOf]
  ·
   obtain ⟨b, hb⟩ : ∃ b, onceP (txP x) = b := ⟨_, rfl⟩
   have HB := Lib.hid hb
   clear hb
   go_upto_region 3 with fail
   have Lkl := lt_size kl
   have Lkp1 := lt_size kp1
   refine wp_pass0 (C := fun _ _ _ => False) (κ := fun i => [0, 1, 3, 4].getD i 0) [0, 1, 2, 3] (by kernel_rfl) (by kernel_rfl) (fun _ _ d _ _ h => by cases d <;> first | exact h | exact absurd h (hP _ _ _)) ?_
   (refine TD.val0 (v := ?_) (by simp only [zK]; rfl) rfl (by rfl) (fun w1 => ?_) ?_; rotate_left; (next => go_simp; try with_reducible rfl); try simp only [Act.put, zL])
   (refine TD.load (v := ?_) (p := ?_) (Mod.refl _ _) (by simp only [zK]; rfl) rfl (by rfl) rfl ?_ (fun wq hSq => ?_) ?_; rotate_left 2; (next => simp only [Act.eval, zM]; try rfl); (next => have klq := hSq.at kl (fun h => h); have kp1q := hSq.at kp1 (fun h => h); go_simp; try with_reducible rfl); try simp only [Act.put, zL])
   (refine TD.allocB (by simp only [zK]; rfl) rfl (by rfl) rfl rfl alRule (fun p4 hp4 => ?n34); try simp only [Act.put, zL])
   (refine TD.storeB (d := ?d35) (T := ?T35) (y := ?y35) (p := ?p35) (b := ?b35) (v := ?v35) (by simp only [zK]; rfl) rfl (by rfl) ?hd35 ?hop35 ?hev35 ?hx35 ?hb35 ?htag35 (fun w1 hb1 => ?hy35) ?hn35; (case hd35 => rfl); (case hop35 => rfl); (case hev35 => (simp only [Act.eval, zM]; (try rfl))); (case hx35 => simp only [Act.eval, zM]; try rfl); (case hb35 => first | exact Bx.set_same _ _ _ | (simp only [Bx.set_same]; rfl)); (case hy35 => (go_simp; (try first | with_reducible rfl | (rw [setCell_blk hb1]; rfl)))); try simp only [Act.put, zL])
   refine TD.nil (fun w3 hr => ?_)
   replace kl := hr.mod.at kl (fun h => h)
   replace kp1 := hr.mod.at kp1 (fun h => h)
   have kp4 := hr.box p4 _ (by first | exact Bx.set_same _ _ _ | (simp only [Bx.set_same]; rfl)); dsimp only [Value.cells] at kp4; obtain ⟨gp4, kp4⟩ := kp4
   have HM3 := Lib.hid (HM.out.then0 hr.mod)
   clear hr
   go_wp2_with fail
   go_at_call 71
   refine (once_c x _ (HX.out.mod0 HM3.out)).mono ?_
   rintro e w4 ⟨rfl, m4⟩
   rw [HB.out]
   have HM4 := Lib.hid (HM3.out.trans m4)
   replace kl := m4.at0 kl
   replace kp1 := m4.at0 kp1
   replace kp4 := m4.at0 kp4
   clear m4
   cases b with
   | false =>
    have HE := Lib.hid (chk_f HI.out HB.out)
    go_wp2_with fail
    go_ret
    exact ⟨by rw [HE.out]; rfl, HM4.out⟩
   | true =>
    have HI2 := Lib.hid (rP_step HI.out HB.out)
    go_wp2_with fail
    go_roundw
    case rel => exact ⟨6, by omega, by go_num, HI2, HM4, kl, kp1⟩
    case measure => simp [intOf]
  ·have HE := Lib.hid (chk_all HI.out)
   go_wp2_with fail
   go_ret
   exact ⟨by rw [HE.out]; rfl, HM.out⟩
end Go.Proofs.YtiaehkkkcaeaiaaGreatDoor
namespace Go.Proofs.YtiaehkkkcaeaiaaGreatDoor
open Go.RowKit
open Go.ChangeMaps (setBlock)
attribute [local go_sem ↓] wlKey ldKey stKey ldSg stSg wlTc ldTc stTc eqKey1
attribute [local go_sem] cell_blk frozen_blk kc_ext one_int one_bool one_ptr one_slice one_map kc_one kc_one0 kc_size zKey_size sgc_size sgc_ext sgc_one0 sgc_one' txr_size txr_all txr_one txr_one' txr0 txr38 txr39 txr0' txr38' txr39' zTx_size Value.cells
attribute [local go_sem] txr2 txr5 txr2' txr5' txr_hd zTc_size zTc_ext zTc_all zTc_all0
theorem results_ct {P : Program} {fn : Func} {t1 t2 : Tmp} {T1 : TypeId} {tmps : Array Value} {p1 : Addr} {v1 : Value} {w : World} (h : fn.results = #[.cell t1 T1, .tmp t2])
  (h1 : tmps.getD t1 undef = .pointer (some p1)) (k1 : (Instr.loadAt T1 (.pointer (some p1))).run P w = .ok v1 w) : (results fn tmps).run P w = .ok (.tuple #[v1, tmps.getD t2 undef]) w := by
 have l1 : (loadVar T1 p1).run P w = .ok v1 w := by simpa [Instr.loadAt, Instr.sureAddr] using k1
 unfold results
 rw [h]
 have hmap : ∀ {α β : Type} (f : α → β) (x : Sem α) (w : World), (f <$> x).run P w = (x.run P w).andThen fun a w => .ok (f a) w := fun f x w => by
  show (x >>= fun a => pure (f a)).run P w = _
  rw [Sem.run_bind]
  rfl
 simp only [List.mapM_toArray, List.mapM_cons, List.mapM_nil, h1, asAddr, Sem.run_bind, hmap, Sem.run_pure, Result.andThen_ok, l1]
 rfl
theorem wP_ne (l : List UInt8) (n : Nat) (h : wholeP l = .error n) : n ≠ 0 := by
 unfold wholeP at h
 split at h
 ·cases h; decide
 ·split at h
  ·rename_i e he
   cases h
   intro e0
   subst e0
   exact NE.tx l he
  ·split at h
   ·cases h; decide
   ·cases h
def WhoP (w : World) (l : List UInt8) (e : Ending) (w' : World) : Prop := Mod (fun _ => False) w w' ∧ match wholeP l with
 | .ok x => ∃ r, e = .returned (.tuple #[.agg (txr r), i64n 0]) ∧ TxO w.heap.size w' r ∧ txP r = x ∧ TxB x
 | .error n => e = .returned (.tuple #[.agg zTc, i64n n])
set_option maxRecDepth 20000 in
set_option maxHeartbeats 3200000 in
theorem whole_c {a : Option Addr} {l : List UInt8} {c : Nat} (w : World) (hl : SlAt uc 1 w a l) (hc : l.length ≤ c) (hn : a = none → c = 0) (hln : l.length ≤ 900000) (hin : ∀ x, a = some x → x.block < w.heap.size) :
  Calls Tryz.prog 54 #[.slice a l.length c] w (WhoP w l) := by
 have HG := Lib.hid (fun w1 (m : Mod (fun _ => False) w w1) => pget_c (c := c) w1 (hl.mod0 m) hc hn hln (by intro x h; exact Nat.lt_of_lt_of_le (hin x h) m.size))
 have hG := HG.out
 obtain ⟨ll, hll⟩ : ∃ ll, l.length = ll := ⟨_, rfl⟩
 rw [hll] at hG
 have HG2 := Lib.hid hG
 have HL := Lib.hid hll
 rw [hll]
 have hbt := bTx0
 have ha1 := alTx
 clear hl hc hn hln hin hG HG hll
 go_enter Tryz.func54, Tryz.ntmps54
 go_upto_region 0 with fail
 refine wp_pass0 (C := fun _ _ _ => False) (κ := fun i => [3, 0].getD i 0) [0, 1] (by kernel_rfl) (by kernel_rfl) (fun _ _ d _ _ h => by cases d <;> first | exact h | exact absurd h (hP _ _ _)) ?_
 (refine TD.allocB (by simp only [zK]; rfl) rfl (by rfl) rfl rfl alTc (fun p2 hp2 => ?n1); try simp only [Act.put, zL])
 (refine TD.val0 (v := ?_) (by simp only [zK]; rfl) rfl (by rfl) (fun w1 => ?_) ?_; rotate_left; (next => go_simp; try with_reducible rfl); try simp only [Act.put, zL])
 refine TD.nil (fun w1 hr => ?_)
 have kp2 := hr.box p2 _ (by first | exact Bx.set_same _ _ _ | (simp only [Bx.set_same]; rfl)); dsimp only [Value.cells] at kp2; obtain ⟨gp2, kp2⟩ := kp2
 have HM1 := Lib.hid hr.mod
 clear hr
 by_cases hbig : 1232 < ll
 ·have HE : Hid (wholeP l = .error 3) := Lib.hid (by unfold wholeP; rw [if_pos (by rw [HL.out]; exact hbig)])
  go_upto_region 2 with fail
  have Lkp2 := lt_size kp2
  refine wp_pass0 (C := fun _ _ _ => False) (κ := fun i => [0, 5, 0].getD i 0) [0, 1, 2] (by kernel_rfl) (by kernel_rfl) (fun _ _ d _ _ h => by cases d <;> first | exact h | exact absurd h (hP _ _ _)) ?_
  (refine TD.build (v := ?v3) (ps := ?p3) (by simp only [zK]; rfl) rfl (by rfl) rfl ?hx3 (fun w1 => ?y3) ?n3; (case hx3 => (simp only [List.map_toArray, List.map_cons, List.map_nil, Act.eval, zM]; (try rfl))); (case y3 => (rw [hbt]; (try with_reducible rfl))); try simp only [Act.put, zL])
  refine TD.eff (by simp only [zK]; rfl) rfl (fun w2 hr => ?_)
  replace kp2 := hr.mod.at kp2 (fun h => h)
  have HM8 := Lib.hid (HM1.out.then0 hr.mod)
  clear hr
  (refine eff_store (X := ?X5) (Y := ?Y5) (w' := ?w5) (by simp only [zK]; rfl) (by rfl) rfl ?hx5 ?hz5 ?y5 ?n5; (case hx5 => simp only [Act.eval, zM]; try rfl); (case hz5 => simp only [Act.eval, zM]; try rfl); (case y5 => go_simp; try with_reducible rfl))
  (first | refine TE.mid_set kp2 (fun wn kp2 mS => ?_) | refine TE.mid_setCell kp2 (fun wn kp2 mS => ?_))
  have HM9 := Lib.hid (HM8.out.thenB mS (.inl gp2))
  clear mS
  (refine TE.val0 (v := ?v6) (by simp only [zK]; rfl) (by rfl) (fun w1 => ?y6) ?n6; (case y6 => go_simp; try with_reducible rfl); try simp only [Act.put, zL])
  refine TE.nil ?_
  go_wp2_with fail
  refine bodyPost_ret (results_ct rfl rfl (ldTcZ kp2)) rfl ?_
  unfold WhoP
  rw [HE.out]
  exact ⟨HM9.out, rfl⟩
 ·have hd1 := decide_eq_false hbig
  have hG := HG2.out w1 HM1.out
  go_upto_region 3 with fail
  refine region_seq 10 rfl ?_
  simp only [List.range, List.range.loop]
  (refine sq_val (v := ?_) (by simp only [zK]; rfl) (by rfl) ?_ ?_; rotate_left; (next => go_simp; try with_reducible rfl); try simp only [Act.put, zL])
  (refine sq_callT (by simp only [zK]; rfl) (by rfl) ?y8 hG ?hout (fun vn wn hR => ?hret) (fun ch wn hR => ?hpan); (case y8 => (go_simp; (try (first | with_reducible rfl | (constructor <;> with_reducible rfl))))))
  case hout =>
   intro w' h
   unfold PgetP at h
   split at h
   ·obtain ⟨_, _, h, _⟩ := h
    cases h
   ·cases h.2
  case hpan =>
   exfalso
   unfold PgetP at hR
   split at hR
   ·obtain ⟨_, _, h, _⟩ := hR
    cases h
   ·cases hR.2
  case hret =>
  obtain ⟨hm, hr⟩ := hR
  clear hG
  have HM3 := Lib.hid (HM1.out.trans hm)
  have HP2 := Lib.hid (lt_size kp2)
  replace kp2 := hm.at0 kp2
  cases hres : pTx l with
  | error e0 =>
   rw [hres] at hr
   simp only at hr
   cases hr
   have he0 : ((e0 : Int) != 0) = true := by
    have h1 := NE.tx l
    rw [NE, hres] at h1
    simpa using fun e => h1 (by rw [e])
   have HE : Hid (wholeP l = .error e0) := Lib.hid (by unfold wholeP; rw [if_neg (by rw [HL.out]; exact hbig), hres])
   clear hm hres
   (try simp only [Act.put, zL])
   obtain ⟨w4, rfl⟩ : ∃ w4 : World, w4 = wn := ⟨_, rfl⟩
   iterate 4 (refine sq_val (v := ?_) (by simp only [zK]; rfl) (by rfl) ?_ ?_; rotate_left; (next => go_simp; try with_reducible rfl); try simp only [Act.put, zL])
   (refine sq_alloc (by simp only [zK]; rfl) (by rfl) rfl alTx (fun p4 wn gp4 kp4 mp4 => ?n13); try simp only [Act.put, zL])
   (refine sq_store (X := ?X14) (Y := ?Y14) (w' := ?w14) (by simp only [zK]; rfl) (by rfl) rfl rfl ?hx14 ?hz14 ?y14 ?n14; (case hx14 => simp only [Act.eval, zM]; try rfl); (case hz14 => simp only [Act.eval, zM]; try rfl); (case y14 => go_simp; try with_reducible rfl))
   (first | refine sq_set kp4 (fun wn kp4 mS => ?_) | refine sq_setCell kp4 (fun wn kp4 mS => ?_))
   iterate 2 (refine sq_val (v := ?_) (by simp only [zK]; rfl) (by rfl) ?_ ?_; rotate_left; (next => go_simp; try with_reducible rfl); try simp only [Act.put, zL])
   refine sq_nil ?_
   have HM5 : Hid (Mod (fun _ => False) w wn) := Lib.hid ((HM3.out.trans mp4).then mS (fun i hi e => by have := HM3.out.size; omega))
   have hp24 : p2 < w4.heap.size := lt_size kp2
   have kp2' : wn.heap[p2]? = some (.cells zTc 35 (0, 0)) := mS.at (mp4.at0 kp2) (fun e => by omega)
   have kp2 := kp2'
   clear mS mp4 kp4 kp2' hp24 gp4
   obtain ⟨w5, rfl⟩ : ∃ w5 : World, w5 = wn := ⟨_, rfl⟩
   go_upto_region 5 with fail
   have Lkp2 := lt_size kp2
   refine wp_pass0 (C := fun _ _ _ => False) (κ := fun i => [0, 0, 5, 0].getD i 0) [0, 1, 2, 3] (by kernel_rfl) (by kernel_rfl) (fun _ _ d _ _ h => by cases d <;> first | exact h | exact absurd h (hP _ _ _)) ?_
   (refine TD.build (v := ?v17) (ps := ?p17) (by simp only [zK]; rfl) rfl (by rfl) rfl ?hx17 (fun w1 => ?y17) ?n17; (case hx17 => (simp only [List.map_toArray, List.map_cons, List.map_nil, Act.eval, zM]; (try rfl))); (case y17 => (rw [hbt]; (try with_reducible rfl))); try simp only [Act.put, zL])
   (refine TD.val0 (v := ?_) (by simp only [zK]; rfl) rfl (by rfl) (fun w1 => ?_) ?_; rotate_left; (next => go_simp; try with_reducible rfl); try simp only [Act.put, zL])
   refine TD.eff (by simp only [zK]; rfl) rfl (fun w6 hr => ?_)
   replace kp2 := hr.mod.at kp2 (fun h => h)
   have HM8 := Lib.hid (HM5.out.then0 hr.mod)
   clear hr
   (refine eff_store (X := ?X20) (Y := ?Y20) (w' := ?w20) (by simp only [zK]; rfl) (by rfl) rfl ?hx20 ?hz20 ?y20 ?n20; (case hx20 => simp only [Act.eval, zM]; try rfl); (case hz20 => simp only [Act.eval, zM]; try rfl); (case y20 => go_simp; try with_reducible rfl))
   (first | refine TE.mid_set kp2 (fun wn kp2 mS => ?_) | refine TE.mid_setCell kp2 (fun wn kp2 mS => ?_))
   have HM9 := Lib.hid (HM8.out.thenB mS (.inl gp2))
   clear mS
   (refine TE.val0 (v := ?v21) (by simp only [zK]; rfl) (by rfl) (fun w1 => ?y21) ?n21; (case y21 => go_simp; try with_reducible rfl); try simp only [Act.put, zL])
   refine TE.nil ?_
   go_wp2_with fail
   refine bodyPost_ret (results_ct rfl rfl (ldTcZ kp2)) rfl ?_
   unfold WhoP
   rw [HE.out]
   exact ⟨HM9.out, rfl⟩
  | ok y =>
   obtain ⟨x, k⟩ := y
   rw [hres] at hr
   obtain ⟨v, hv0, hv, hk1⟩ := hr
   cases hv0
   obtain ⟨r, rfl, hrx, hO⟩ := hv.toO
   have HB := Lib.hid (PO.tx x k hres).2
   have HO := Lib.hid hO
   have HRX := Lib.hid hrx
   have HK : Hid (k ≤ ll) := Lib.hid (by rw [← HL.out]; exact hk1)
   clear hm hO hrx hv hk1
   (try simp only [Act.put, zL])
   obtain ⟨w4, rfl⟩ : ∃ w4 : World, w4 = wn := ⟨_, rfl⟩
   iterate 4 (refine sq_val (v := ?_) (by simp only [zK]; rfl) (by rfl) ?_ ?_; rotate_left; (next => go_simp; try with_reducible rfl); try simp only [Act.put, zL])
   (refine sq_alloc (by simp only [zK]; rfl) (by rfl) rfl alTx (fun p4 wn gp4 kp4 mp4 => ?n26); try simp only [Act.put, zL])
   (refine sq_store (X := ?X27) (Y := ?Y27) (w' := ?w27) (by simp only [zK]; rfl) (by rfl) rfl rfl ?hx27 ?hz27 ?y27 ?n27; (case hx27 => simp only [Act.eval, zM]; try rfl); (case hz27 => simp only [Act.eval, zM]; try rfl); (case y27 => go_simp; try with_reducible rfl))
   (first | refine sq_set kp4 (fun wn kp4 mS => ?_) | refine sq_setCell kp4 (fun wn kp4 mS => ?_))
   iterate 2 (refine sq_val (v := ?_) (by simp only [zK]; rfl) (by rfl) ?_ ?_; rotate_left; (next => go_simp; try with_reducible rfl); try simp only [Act.put, zL])
   refine sq_nil ?_
   replace kp4 : wn.heap[p4]? = some (.cells (txr r) 35 (0, 0)) := kp4
   have m4 : Mod (fun _ => False) w4 wn := mp4.then mS (fun i hi e => by omega)
   have HM5 := Lib.hid (HM3.out.trans m4)
   have HO5 := Lib.hid (HO.out.mod0 m4)
   have kp2' := m4.at0 kp2
   clear kp2
   have kp2 := kp2'
   clear mS mp4 kp2' gp4 m4
   obtain ⟨w5, rfl⟩ : ∃ w5 : World, w5 = wn := ⟨_, rfl⟩
   by_cases hk : k < ll
   ·have HE : Hid (wholeP l = .error 4) := Lib.hid (by unfold wholeP; rw [if_neg (by rw [HL.out]; exact hbig), hres]; simp only; rw [if_pos (by rw [HL.out]; exact hk)])
    clear hres
    go_upto_region 7 with fail
    have Lkp2 := lt_size kp2
    refine wp_pass0 (C := fun _ _ _ => False) (κ := fun i => [0, 5, 0].getD i 0) [0, 1, 2] (by kernel_rfl) (by kernel_rfl) (fun _ _ d _ _ h => by cases d <;> first | exact h | exact absurd h (hP _ _ _)) ?_
    (refine TD.build (v := ?v30) (ps := ?p30) (by simp only [zK]; rfl) rfl (by rfl) rfl ?hx30 (fun w1 => ?y30) ?n30; (case hx30 => (simp only [List.map_toArray, List.map_cons, List.map_nil, Act.eval, zM]; (try rfl))); (case y30 => (rw [hbt]; (try with_reducible rfl))); try simp only [Act.put, zL])
    refine TD.eff (by simp only [zK]; rfl) rfl (fun w6 hr => ?_)
    replace kp2 := hr.mod.at kp2 (fun h => h)
    have HM8 := Lib.hid (HM5.out.then0 hr.mod)
    clear hr
    (refine eff_store (X := ?X32) (Y := ?Y32) (w' := ?w32) (by simp only [zK]; rfl) (by rfl) rfl ?hx32 ?hz32 ?y32 ?n32; (case hx32 => simp only [Act.eval, zM]; try rfl); (case hz32 => simp only [Act.eval, zM]; try rfl); (case y32 => go_simp; try with_reducible rfl))
    (first | refine TE.mid_set kp2 (fun wn kp2 mS => ?_) | refine TE.mid_setCell kp2 (fun wn kp2 mS => ?_))
    have HM9 := Lib.hid (HM8.out.thenB mS (.inl gp2))
    clear mS
    (refine TE.val0 (v := ?v33) (by simp only [zK]; rfl) (by rfl) (fun w1 => ?y33) ?n33; (case y33 => go_simp; try with_reducible rfl); try simp only [Act.put, zL])
    refine TE.nil ?_
    go_wp2_with fail
    refine bodyPost_ret (results_ct rfl rfl (ldTcZ kp2)) rfl ?_
    unfold WhoP
    rw [HE.out]
    exact ⟨HM9.out, rfl⟩
   ·have HE : Hid (wholeP l = .ok x) := Lib.hid (by unfold wholeP; rw [if_neg (by rw [HL.out]; exact hbig), hres]; simp only; rw [if_neg (by rw [HL.out]; exact hk)])
    have hd5 := decide_eq_false hk
    clear hres
    go_upto_region 8 with fail
    have Lkp2 := lt_size kp2
    have Lkp4 := lt_size kp4
    refine wp_pass0 (C := fun _ _ _ => False) (κ := fun i => [1, 5, 0].getD i 0) [0, 1, 2] (by kernel_rfl) (by kernel_rfl) (fun _ _ d _ _ h => by cases d <;> first | exact h | exact absurd h (hP _ _ _)) ?_
    (refine TD.load (v := ?_) (p := ?_) (Mod.refl _ _) (by simp only [zK]; rfl) rfl (by rfl) rfl ?_ (fun wq hSq => ?_) ?_; rotate_left 2; (next => simp only [Act.eval, zM]; try rfl); (next => have kp2q := hSq.at kp2 (fun h => h); have kp4q := hSq.at kp4 (fun h => h); go_simp; try with_reducible rfl); try simp only [Act.put, zL])
    refine TD.eff (by simp only [zK]; rfl) rfl (fun w6 hr => ?_)
    replace kp2 := hr.mod.at kp2 (fun h => h)
    replace kp4 := hr.mod.at kp4 (fun h => h)
    have HM8 := Lib.hid (HM5.out.then0 hr.mod)
    have HO6 := Lib.hid (HO5.out.mod0 hr.mod)
    clear hr
    (refine eff_store (X := ?X36) (Y := ?Y36) (w' := ?w36) (by simp only [zK]; rfl) (by rfl) rfl ?hx36 ?hz36 ?y36 ?n36; (case hx36 => simp only [Act.eval, zM]; try rfl); (case hz36 => simp only [Act.eval, zM]; try rfl); (case y36 => go_simp; try with_reducible rfl))
    (first | refine TE.mid_set kp2 (fun wn kp2 mS => ?_) | refine TE.mid_setCell kp2 (fun wn kp2 mS => ?_))
    have HM9 := Lib.hid (HM8.out.thenB mS (.inl gp2))
    have HO9 := Lib.hid ((HO6.out.mod mS (Apt.below (fun i e => by have e' : i = p2 := e; have := HP2.out; omega))).base HM1.out.size)
    clear mS
    (refine TE.val0 (v := ?v37) (by simp only [zK]; rfl) (by rfl) (fun w1 => ?y37) ?n37; (case y37 => go_simp; try with_reducible rfl); try simp only [Act.put, zL])
    refine TE.nil ?_
    go_wp2_with fail
    refine bodyPost_ret (results_ct rfl rfl (ldTxr kp2)) rfl ?_
    unfold WhoP
    rw [HE.out]
    exact ⟨HM9.out, r, rfl, HO9.out, HRX.out, HB.out⟩
end Go.Proofs.YtiaehkkkcaeaiaaGreatDoor
namespace Go.Proofs.YtiaehkkkcaeaiaaGreatDoor
open Go.RowKit
open Go.ChangeMaps (setBlock)
attribute [local go_sem] cell_blk frozen_blk one_int one_bool one_ptr one_slice one_map Value.cells
attribute [local go_sem ↓] wlKey ldKey stKey
attribute [local go_sem] kc_ext kc_one kc_one0 kc_size zKey_size one_slice
theorem wr_get (vs : List Value) (cs : Array Value) (o : Nat) (h : o + vs.length ≤ cs.size) (t : Nat) : (wr cs o vs)[t]? = if o ≤ t ∧ t < o + vs.length then vs[t - o]? else cs[t]? := by
 rw [← Array.getElem?_toList, wr_list vs cs o h]
 have hl : cs.toList.length = cs.size := Array.length_toList
 by_cases h1 : t < o
 ·rw [if_neg (by omega), List.append_assoc, List.getElem?_append_left (by rw [List.length_take]; omega), List.getElem?_take, if_pos h1, Array.getElem?_toList]
 ·by_cases h2 : t < o + vs.length
  ·rw [if_pos ⟨by omega, h2⟩, List.append_assoc, List.getElem?_append_right (by rw [List.length_take]; omega), List.length_take, Nat.min_eq_left (by omega), List.getElem?_append_left (by omega)]
  ·rw [if_neg (by omega), List.getElem?_append_right (by rw [List.length_append, List.length_take]; omega), List.length_append, List.length_take, Nat.min_eq_left (by omega), List.getElem?_drop, Array.getElem?_toList]
   congr 1
   omega
theorem row_set {α : Type} {f : α → Array Value} {n o i : Nat} {C : Array Value} {l : List α} (hs : ∀ x, (f x).size = n) (hrow : ∀ j y, l[j]? = some y → C.extract (o + j * n) (o + j * n + n) = f y ∧ o + j * n + n ≤ C.size) (hi : i < l.length) (x : α) :
  ∀ j y, (l.set i x)[j]? = some y → (wr C (o + i * n) (f x).toList).extract (o + j * n) (o + j * n + n) = f y ∧ o + j * n + n ≤ (wr C (o + i * n) (f x).toList).size := by
 intro j y hy
 have hfl : (f x).toList.length = n := by rw [Array.length_toList, hs]
 have hii := (hrow i _ (List.getElem?_eq_getElem hi)).2
 rw [wr_size]
 have hget := fun t => wr_get (f x).toList C (o + i * n) (by rw [hfl]; exact hii) t
 rw [hfl] at hget
 by_cases hj : j = i
 ·subst hj
  rw [List.getElem?_set_self hi] at hy
  cases hy
  refine ⟨?_, hii⟩
  apply Array.ext_getElem?
  intro t
  rw [Array.getElem?_extract, wr_size]
  by_cases ht : t < n
  ·rw [if_pos (by omega), hget, if_pos (by omega), Nat.add_sub_cancel_left, Array.getElem?_toList]
  ·rw [if_neg (by omega), Array.getElem?_eq_none (by rw [hs]; omega)]
 ·rw [List.getElem?_set_ne (fun e => hj e.symm)] at hy
  obtain ⟨h1, h2⟩ := hrow j y hy
  refine ⟨?_, h2⟩
  rw [← h1]
  apply Array.ext_getElem?
  intro t
  rw [Array.getElem?_extract, Array.getElem?_extract, wr_size]
  by_cases ht : t < n
  ·rw [if_pos (by omega), if_pos (by omega), hget, if_neg]
   intro hh
   rcases Nat.lt_or_ge j i with h | h
   ·have : (j + 1) * n ≤ i * n := Nat.mul_le_mul_right _ h
    rw [Nat.add_mul, Nat.one_mul] at this
    omega
   ·have : (i + 1) * n ≤ j * n := Nat.mul_le_mul_right _ (by omega)
    rw [Nat.add_mul, Nat.one_mul] at this
    omega
  ·rw [if_neg (by omega), if_neg (by omega)]
def WAtG {α : Type} (f : α → Array Value) (n : Nat) (w : World) (a : Option Addr) (l : List α) : Prop := l = [] ∨ ∃ b o C U, a = some ⟨b, o, none⟩ ∧ w.heap[b]? = some (.cells C U (0, 0)) ∧ ∀ j y, l[j]? = some y → C.extract (o + j * n) (o + j * n + n) = f y ∧ o + j * n + n ≤ C.size
section
variable {α : Type} {f : α → Array Value} {n : Nat}
theorem WAtG.sl {w : World} {a : Option Addr} {l : List α} (h : WAtG f n w a l) : SlAt f n w a l := by
 rcases h with h | ⟨b, o, C, U, h1, h2, h3⟩
 ·exact .inl h
 ·exact .inr ⟨b, o, C, _, _, h1, h2, h3⟩
theorem WAtG.of {E : TypeId} {b : Nat} {w : World} {a : Option Addr} {m c : Nat} {l : List α} (h : NewS f n E b w (.slice a m c) l) : WAtG f n w a l := by
 rcases h with ⟨_, h⟩ | ⟨g, cur, h1, _, h2, h3⟩
 ·exact .inl h
 ·injection h1 with h1 _ _
  exact .inr ⟨g, 0, cur, E, h1, h2, fun j y hy => by simpa using h3 j y hy⟩
end
inductive Pg
 | y (a : Option Addr) (n : Nat) (h f : UInt8)
 | k (a : Option Addr) (n : Nat) (h f : Key)
 | s (a : Option Addr) (n : Nat) (h f : Sg)
def Pg.a : Pg → Option Addr
 | .y a _ _ _ => a
 | .k a _ _ _ => a
 | .s a _ _ _ => a
def Pg.n : Pg → Nat
 | .y _ n _ _ => n
 | .k _ n _ _ => n
 | .s _ n _ _ => n
end Go.Proofs.YtiaehkkkcaeaiaaGreatDoor
namespace Go.Proofs.YtiaehkkkcaeaiaaGreatDoor
open Go.RowKit
open Go.ChangeMaps (setBlock)
attribute [local go_sem] cell_blk frozen_blk one_int one_bool one_ptr one_slice one_map Value.cells
abbrev Pl := Nat × Option Addr × Nat
def FmL (a : Option Addr) (n : Nat) : Prop := (a = none ∧ n = 0) ∨ ∃ g, a = some ⟨g, 0, none⟩
section
variable {α : Type} {f : α → Array Value} {n B : Nat} {P : Program} {T E : TypeId}
theorem NewS.fm {b m c : Nat} {w : World} {a : Option Addr} {l : List α} (h : NewS f n E b w (.slice a m c) l) : FmL a l.length := by
 rcases h with ⟨h1, h2⟩ | ⟨g, cur, h1, _⟩
 ·injection h1 with h1 _ _
  subst h1
  subst h2
  exact .inl ⟨rfl, rfl⟩
 ·injection h1 with h1 _ _
  exact .inr ⟨g, h1⟩
end
def WrL (w : World) (p : Pl) : Prop := FmL p.2.1 p.2.2 ∧ (p.1 = 0 → ∃ l, l.length = p.2.2 ∧ WAtG uc 1 w p.2.1 l) ∧ (p.1 = 1 → ∃ l, l.length = p.2.2 ∧ WAtG kc 32 w p.2.1 l) ∧ (p.1 = 2 → ∃ l, l.length = p.2.2 ∧ WAtG sgc 64 w p.2.1 l)
theorem All2.left {α β : Type} {R : α → β → Prop} {l : List α} {m : List β} (h : All2 R l m) : ∀ x ∈ l, ∃ y ∈ m, R x y := by
 induction h with
 | nil => exact fun x h => by cases h
 | @cons a b l m hx _ ih =>
  intro x hx'
  rcases List.mem_cons.1 hx' with rfl | hx'
  ·exact ⟨b, List.mem_cons_self, hx⟩
  ·obtain ⟨y, h1, h2⟩ := ih x hx'
   exact ⟨y, List.mem_cons_of_mem _ h1, h2⟩
theorem WrL.y {b c m : Nat} {w : World} {a : Option Addr} {l : List UInt8} (h : NewS uc 1 5 b w (.slice a m c) l) : WrL w (0, a, l.length) := ⟨h.fm, fun _ => ⟨l, rfl, WAtG.of h⟩, fun e => (by cases e), fun e => (by cases e)⟩
theorem WrL.k {b c m : Nat} {w : World} {a : Option Addr} {l : List Key} (h : NewS kc 32 82 b w (.slice a m c) l) : WrL w (1, a, l.length) := ⟨h.fm, fun e => (by cases e), fun _ => ⟨l, rfl, WAtG.of h⟩, fun e => (by cases e)⟩
theorem WrL.s {b c m : Nat} {w : World} {a : Option Addr} {l : List Sg} (h : NewS sgc 64 101 b w (.slice a m c) l) : WrL w (2, a, l.length) := ⟨h.fm, fun e => (by cases e), fun e => (by cases e), fun _ => ⟨l, rfl, WAtG.of h⟩⟩
end Go.Proofs.YtiaehkkkcaeaiaaGreatDoor
namespace Go.Proofs.YtiaehkkkcaeaiaaGreatDoor
open Go.RowKit
open Go.ChangeMaps (setBlock)
attribute [local go_sem] cell_blk frozen_blk one_int one_bool one_ptr one_slice one_map Value.cells
theorem ns_rd {α : Type} {f : α → Array Value} {n : Nat} {E : TypeId} {b m c : Nat} {w : World} {a : Option Addr} {l : List α} (h : NewS f n E b w (.slice a m c) l) : SlAt f n w a l := (WAtG.of h).sl
theorem TxO.rd {b : Nat} {w : World} {x : RdR} (h : TxO b w x) (hB : TxB (txP x)) : TxRd w x := by
 obtain ⟨h1, h2, h3, h4, h5, h6, h7⟩ := h
 obtain ⟨b1, b2, ⟨b3, b4⟩, b5, b6⟩ := hB
 simp only [txP, msgP, List.length_map] at b1 b2 b3 b4 b5 b6
 refine ⟨⟨ns_rd h1, by omega⟩, ⟨ns_rd h2, by omega⟩, ⟨ns_rd h3, by omega, fun i hi => ?_⟩, ns_rd h5, by omega, fun i hi => ?_⟩
 ·obtain ⟨y, hy, _, e2, e3, e4, e5⟩ := h4.1.left i hi
  have hb := b4 y hy
  rw [← e2] at e4
  rw [← e3] at e5
  exact ⟨⟨ns_rd e4, by rw [e2]; exact Nat.le_trans hb.1 (by decide)⟩, ⟨ns_rd e5, by rw [e3]; exact Nat.le_trans hb.2 (by decide)⟩⟩
 ·obtain ⟨y, hy, _, e2, e3, e4, e5⟩ := h6.1.left i hi
  have hb := b6 y hy
  rw [← e2] at e4
  rw [← e3] at e5
  exact ⟨⟨ns_rd e4, by rw [e2]; exact Nat.le_trans hb.1 (by decide)⟩, ⟨ns_rd e5, by rw [e3]; exact Nat.le_trans hb.2 (by decide)⟩⟩
end Go.Proofs.YtiaehkkkcaeaiaaGreatDoor
namespace Go.Proofs.YtiaehkkkcaeaiaaGreatDoor
open Go.RowKit
open Go.ChangeMaps (setBlock)
attribute [local go_sem ↓] wlKey ldKey stKey ldSg stSg wlTc ldTc stTc eqKey1
attribute [local go_sem] cell_blk frozen_blk kc_ext one_int one_bool one_ptr one_slice one_map kc_one kc_one0 kc_size zKey_size sgc_size sgc_ext sgc_one0 sgc_one' txr_size txr_all txr_one txr_one' txr0 txr38 txr39 txr0' txr38' txr39' zTx_size Value.cells
attribute [local go_sem] txr2 txr5 txr2' txr5' txr_hd zTc_size zTc_ext zTc_all zTc_all0
theorem chk_ne {l : List UInt8} {n : Nat} (h : wireP l = .error n) : n ≠ 0 := by
 unfold wireP at h
 split at h
 ·rename_i e he
  cases h
  exact wP_ne l n he
 ·split at h
  ·cases h
  ·cases h
   assumption
def WirP (w : World) (l : List UInt8) (e : Ending) (w' : World) : Prop := Mod (fun _ => False) w w' ∧ match wireP l with
 | .ok x => ∃ r, e = .returned (.tuple #[.agg (txr r), i64n 0]) ∧ TxO w.heap.size w' r ∧ txP r = x ∧ TxB x
 | .error n => e = .returned (.tuple #[.agg zTc, i64n n])
def G2 (p2 p3 : Nat) (X : Array Value) (E : Int) : Land := fun T w => (T p2 ∧ w.heap[p2]? = some (.cells X 35 (0, 0))) ∧ (T p3 ∧ w.heap[p3]? = some (.cells #[.int .i64 E] 42 (0, 0)))
theorem ldX {w : World} {p : Nat} {X : Array Value} (hX : X.size = 40) (h : w.heap[p]? = some (.cells X 35 (0, 0))) : (Instr.loadAt 35 (pV p)).run Tryz.prog w = .ok (.agg X) w := by
 rw [ldTc, h]
 have : X.extract 0 40 = X := by rw [← hX]; simp
 simp [hX, this]
set_option maxRecDepth 20000 in
theorem wire1_c {p2 p3 n : Nat} {X : Array Value} {w : World} (h2 : w.heap[p2]? = some (.cells X 35 (0, 0))) (h3 : w.heap[p3]? = some (.cells #[.int .i64 (n : Int)] 42 (0, 0))) (hX : X.size = 40) (h1 : p2 ≠ p3) :
  CallsD Tryz.prog 53 #[pV p3, pV p2] .returning w fun e u' w' => u' = .returning ∧ (e = .returned (.tuple #[]) ∧ w'.heap[p2]? = some (.cells (if n = 0 then X else zTc) 35 (0, 0)) ∧ w'.heap[p3]? = some (.cells #[.int .i64 (n : Int)] 42 (0, 0)) ∧ Mod (fun i => i = p2) w w') := by
 have hbt := bTx0
 by_cases hn : n = 0
 ·rw [if_pos hn]
  have hd : ((n : Int) != 0) = false := by simp [hn]
  refine callsD_of_wp Tryz.func53 rfl ?_
  simp only [Tryz.ntmps53, List.size_toArray, List.length_cons, List.length_nil, Nat.reduceAdd, Nat.reduceSub, Array.replicate_succ, Array.replicate_zero, List.push_toArray, List.append_toArray, List.nil_append, List.cons_append]
  have HH := Lib.hid h2
  clear hn
  go_wp2_with fail
  exact bodyPost_end (results_none rfl _ _ _) rfl ⟨rfl, HH.out, h3, Mod.refl _ _⟩
 ·rw [if_neg hn]
  have hd : ((n : Int) != 0) = true := by simp [hn]
  refine callsD_of_wp Tryz.func53 rfl ?_
  simp only [Tryz.ntmps53, List.size_toArray, List.length_cons, List.length_nil, Nat.reduceAdd, Nat.reduceSub, Array.replicate_succ, Array.replicate_zero, List.push_toArray, List.append_toArray, List.nil_append, List.cons_append]
  clear hn
  go_upto_region 1 with fail
  have Lh2 := lt_size h2
  have Lh3 := lt_size h3
  refine wp_pass0 (C := fun _ _ _ => False) (κ := fun i => [0, 5].getD i 0) [0, 1] (by kernel_rfl) (by kernel_rfl) (fun _ _ d _ _ h => by cases d <;> first | exact h | exact absurd h (hP _ _ _)) ?_
  (refine TD.build (v := ?v1) (ps := ?p1) (by simp only [zK]; rfl) rfl (by rfl) rfl ?hx1 (fun w1 => ?y1) ?n1; (case hx1 => (simp only [List.map_toArray, List.map_cons, List.map_nil, Act.eval, zM]; (try rfl))); (case y1 => (rw [hbt]; (try with_reducible rfl))); try simp only [Act.put, zL])
  refine TD.eff (by simp only [zK]; rfl) rfl (fun w2 hr => ?_)
  replace h2 := hr.mod.at h2 (fun h => h)
  replace h3 := hr.mod.at h3 (fun h => h)
  have HM2 := Lib.hid (hr.mod)
  clear hr
  (refine eff_store (X := ?X3) (Y := ?Y3) (w' := ?w3) (by simp only [zK]; rfl) (by rfl) rfl ?hx3 ?hz3 ?y3 ?n3; (case hx3 => simp only [Act.eval, zM]; try rfl); (case hz3 => simp only [Act.eval, zM]; try rfl); (case y3 => go_simp; try with_reducible rfl))
  (first | refine TE.nil_set h2 (fun wn h2 mS => ?_) | refine TE.nil_setCell h2 (fun wn h2 mS => ?_))
  have HF := Lib.hid (And.intro h2 (And.intro (mS.at_ne h3 h1.symm) ((HM2.out.mono (fun _ _ h => h.elim)).trans mS)))
  clear h2 h3 mS
  go_wp2_with fail
  exact bodyPost_end (results_none rfl _ _ _) rfl ⟨rfl, HF.out⟩
theorem two {w w1 : World} {A B : Obj} (h : w1 = (w.alloc A).alloc B) : w1.heap.size = w.heap.size + 2 ∧ w1.heap[w.heap.size]? = some A ∧ w1.heap[w.heap.size + 1]? = some B ∧ Mod (fun _ => False) w w1 := by
 have hz : ∀ (v : World) (o : Obj), (v.alloc o).heap.size = v.heap.size + 1 := fun v o => Array.size_push ..
 have e1 := hz w A
 have e2 := hz (w.alloc A) B
 rw [e1] at e2
 have a1 := heap_alloc_new w A
 have a2 := heap_alloc_new (w.alloc A) B
 rw [e1] at a2
 have m2 := (Mod.refl (fun _ => False) (w.alloc A)).alloc B
 rw [← h] at a2 e2 m2
 exact ⟨e2, m2.at0 a1, a2, ((Mod.refl _ w).alloc _).trans m2⟩
theorem results_cell2 {P : Program} {fn : Func} {t1 t2 : Tmp} {T1 T2 : TypeId} {tmps : Array Value} {p1 p2 : Addr} {v1 v2 : Value} {w : World} (h : fn.results = #[.cell t1 T1, .cell t2 T2])
  (h1 : tmps.getD t1 undef = .pointer (some p1)) (h2 : tmps.getD t2 undef = .pointer (some p2))
  (k1 : (Instr.loadAt T1 (.pointer (some p1))).run P w = .ok v1 w) (k2 : (Instr.loadAt T2 (.pointer (some p2))).run P w = .ok v2 w) : (results fn tmps).run P w = .ok (.tuple #[v1, v2]) w := by
 have l1 : (loadVar T1 p1).run P w = .ok v1 w := by simpa [Instr.loadAt, Instr.sureAddr] using k1
 have l2 : (loadVar T2 p2).run P w = .ok v2 w := by simpa [Instr.loadAt, Instr.sureAddr] using k2
 unfold results
 rw [h]
 have hmap : ∀ {α β : Type} (f : α → β) (x : Sem α) (w : World), (f <$> x).run P w = (x.run P w).andThen fun a w => .ok (f a) w := fun f x w => by
  show (x >>= fun a => pure (f a)).run P w = _
  rw [Sem.run_bind]
  rfl
 simp only [List.mapM_toArray, List.mapM_cons, List.mapM_nil, h1, h2, asAddr, Sem.run_bind, hmap, Sem.run_pure, Result.andThen_ok, l1, l2]
 rfl
section
variable {P : Program} {ops : Array Oper} {Q : Exit → Act → World → Prop} {T0 : Nat → Prop} {w0 : World} {κ : Nat → Nat} {υ : Nat → List Tmp}
theorem TG.storeU {i : Nat} {r : List Nat} {a : Act} {B : Bx} {K : Land} {o : Oper} {T : TypeId} {x y : Operand} {X Y : Value} (K' : Land) (hcl : Good K') (ho : ops[i]? = some o) (hk : κ i = 6) (hw : Region.wanted o (yielded ops a.tmps) = true)
  (hd : o.dst = none) (hop : o.op = .store T x y) (hx : a.eval x = X) (hy : a.eval y = Y)
  (hr : ∀ T' w, Mod T0 w0 w → K T' w → ∃ w', (Instr.storeAt T X Y).run P w = .ok () w' ∧ Mod T' w w' ∧ K' T' w')
  (h : Inh T0 w0 B K' → TG P ops Q T0 w0 κ υ r a B K') : TG P ops Q T0 w0 κ υ (i :: r) a B K := by
 refine TG.eff' (fun _ => K') ho hk hw (fun _ => hcl.cl) (fun T2 w k1 k2 k3 k4 => .inr (.inl ?_)) (fun v hI => by rw [hd]; exact h hI)
 obtain ⟨w', h1, h2, h3⟩ := hr T2 w k3 k1
 refine ⟨w', ?_, h2, hcl.gr _ _ _ (fun _ h => .inl h) h3⟩
 subst hx
 subst hy
 simp [execOp, hop, h1]
end
set_option maxRecDepth 20000 in
set_option maxHeartbeats 6400000 in
theorem wire_c {a : Option Addr} {l : List UInt8} {c : Nat} (w : World) (hl : SlAt uc 1 w a l) (hc : l.length ≤ c) (hn : a = none → c = 0) (hln : l.length ≤ 900000) (hin : ∀ x, a = some x → x.block < w.heap.size) :
  Calls Tryz.prog 15 #[.slice a l.length c] w (WirP w l) := by
 have HG := Lib.hid (fun w1 (m : Mod (fun _ => False) w w1) => whole_c (c := c) w1 (hl.mod0 m) hc hn hln (by intro x h; exact Nat.lt_of_lt_of_le (hin x h) m.size))
 have hG := HG.out
 obtain ⟨ll, hll⟩ : ∃ ll, l.length = ll := ⟨_, rfl⟩
 rw [hll] at hG
 have HG2 := Lib.hid hG
 rw [hll]
 have hmf := hmf
 clear hl hc hn hln hin hG HG hll
 have ha1 := alTc
 have ha2 := alE3
 go_enter_defers Tryz.func15, Tryz.ntmps15
 go_upto_region 2 with fail
 refine (fun w1 hw1 => ?_ : ∀ w1, w1 = _ → Code.wp _ _ _ _ w1) _ rfl
 obtain ⟨hs, kp2, kp3, m1⟩ := two hw1
 replace kp2 : w1.heap[w.heap.size]? = some (.cells zTc 35 (0, 0)) := kp2
 clear hw1 ha1 ha2 hmf
 obtain ⟨ps, hps⟩ : ∃ ps, w.heap.size = ps := ⟨_, rfl⟩
 obtain ⟨p3, hp3⟩ : ∃ p3, ps + 1 = p3 := ⟨_, rfl⟩
 rw [hps] at kp2 kp3 hs ⊢
 rw [hp3] at kp3 ⊢
 have HNE : Hid (ps ≠ p3) := Lib.hid (by omega)
 have HS := Lib.hid (And.intro hps (And.intro hp3 hs))
 have HM1 := Lib.hid m1
 have hG := HG2.out w1 m1
 clear hps hp3 hs m1
 refine region_seq 7 rfl ?_
 simp only [List.range, List.range.loop]
 (refine sq_val (v := ?_) (by simp only [zK]; rfl) (by rfl) ?_ ?_; rotate_left; (next => go_simp; try with_reducible rfl); try simp only [Act.put, zL])
 (refine sq_callT (by simp only [zK]; rfl) (by rfl) ?y5 hG ?hout (fun vn wn hR => ?hret) (fun ch wn hR => ?hpan); (case y5 => (go_simp; (try (first | with_reducible rfl | (constructor <;> with_reducible rfl))))))
 case hout =>
  intro w' h
  unfold WhoP at h
  split at h
  ·obtain ⟨_, _, h, _⟩ := h
   cases h
  ·cases h.2
 case hpan =>
  exfalso
  unfold WhoP at hR
  split at hR
  ·obtain ⟨_, _, h, _⟩ := hR
   cases h
  ·cases hR.2
 case hret =>
  obtain ⟨hm, hr⟩ := hR
  clear hG
  have HM3 := Lib.hid (HM1.out.trans hm)
  replace kp2 := hm.at0 kp2
  replace kp3 := hm.at0 kp3
  have HSZ := Lib.hid hm.size
  clear hm
  cases hres : wholeP l with
  | error e0 =>
   rw [hres] at hr
   simp only at hr
   cases hr
   have h0 := wP_ne l e0 hres
   have HFN : Hid (∀ wz, Mod (fun _ => False) w wz → WirP w l (.returned (.tuple #[.agg zTc, .int .i64 (e0 : Int)])) wz) := Lib.hid (fun wz m => by
    have hw : wireP l = .error e0 := by unfold wireP; rw [hres]
    refine ⟨m, ?_⟩
    rw [hw])
   have hd : decide ((e0 : Int) = 0) = false := decide_eq_false (by omega)
   have hd2 : ((e0 : Int) == 0) = false := by simpa using h0
   have hd3 : (e0 == 0) = false := by simpa using h0
   have hd4 : decide (e0 = 0) = false := decide_eq_false h0
   have H0 := Lib.hid h0
   clear hres h0
   (try simp only [Act.put, zL])
   obtain ⟨w4, rfl⟩ : ∃ w4 : World, w4 = wn := ⟨_, rfl⟩
   iterate 3 (refine sq_val (v := ?_) (by simp only [zK]; rfl) (by rfl) ?_ ?_; rotate_left; (next => go_simp; try with_reducible rfl); try simp only [Act.put, zL])
   (refine sq_store (X := ?X9) (Y := ?Y9) (w' := ?w9) (by simp only [zK]; rfl) (by rfl) rfl rfl ?hx9 ?hz9 ?y9 ?n9; (case hx9 => simp only [Act.eval, zM]; try rfl); (case hz9 => simp only [Act.eval, zM]; try rfl); (case y9 => go_simp; try with_reducible rfl))
   (first | refine sq_set kp2 (fun wn kp2 mS => ?_) | refine sq_setCell kp2 (fun wn kp2 mS => ?_))
   have HM5 : Hid (Mod (fun i => i = ps ∨ i = p3) w4 wn) := Lib.hid (mS.mono (fun i _ e => .inl e))
   replace kp3 := mS.at_ne kp3 HNE.out.symm
   clear mS
   obtain ⟨w5, rfl⟩ : ∃ w5 : World, w5 = wn := ⟨_, rfl⟩
   (refine sq_store (X := ?X10) (Y := ?Y10) (w' := ?w10) (by simp only [zK]; rfl) (by rfl) rfl rfl ?hx10 ?hz10 ?y10 ?n10; (case hx10 => simp only [Act.eval, zM]; try rfl); (case hz10 => simp only [Act.eval, zM]; try rfl); (case y10 => go_simp; try with_reducible rfl))
   (first | refine sq_set kp3 (fun wn kp3 mS => ?_) | refine sq_setCell kp3 (fun wn kp3 mS => ?_))
   refine sq_nil ?_
   have HM6 : Hid (Mod (fun i => i = ps ∨ i = p3) w4 wn) := Lib.hid (HM5.out.then mS (fun i _ e => .inr e))
   replace kp2 := mS.at_ne kp2 HNE.out
   clear mS
   have HXS : Hid (zTc.size = 40 ∧ zTc.all (·.oneCell') = true) := Lib.hid ⟨zTc_size, zTc_all⟩
   have HFIN : Hid (∀ wz, Mod (fun i => i = ps ∨ i = p3) wn wz → WirP w l (.returned (.tuple #[.agg (if e0 = 0 then zTc else zTc), .int .i64 (e0 : Int)])) wz) := Lib.hid (fun wz m => by
    rw [if_neg H0.out]
    exact HFN.out wz ((HM3.out.then HM6.out (fun i hi e => by have := HS.out; omega)).then m (fun i hi e => by have := HS.out; omega)))
   have hxz : (Instr.loadAt 35 (pV ps)).run Tryz.prog wn = .ok (.agg zTc) wn := ldX HXS.out.1 kp2
   have HLX : Hid (∀ w' : World, w'.heap[ps]? = some (.cells zTc 35 (0, 0)) → (Instr.loadAt 35 (pV ps)).run Tryz.prog w' = .ok (.agg zTc) w') := Lib.hid (fun w' h => ldX HXS.out.1 h)
   clear hxz
   go_upto_region 5 with fail
   refine wp_mono (Q := fun e a' w' => e = .normal ∧ (a'.tmps.getD 2 undef = pV ps ∧ a'.tmps.getD 3 undef = pV p3 ∧ a'.defers = [{ target := .fn (.func 53) #[pV p3, pV ps], args := #[] }]) ∧ G2 ps p3 zTc (e0 : Int) (fun i => i = ps ∨ i = p3) w' ∧ Mod (fun i => i = ps ∨ i = p3) wn w') ?_ ?_
   ·have hP : ∀ (c : List PanicEntry) (a : Act) (w' : World), ¬ ((Exit.panic c = Exit.normal) ∧ (a.tmps.getD 2 undef = pV ps ∧ a.tmps.getD 3 undef = pV p3 ∧ a.defers = [{ target := .fn (.func 53) #[pV p3, pV ps], args := #[] }]) ∧ G2 ps p3 zTc (e0 : Int) (fun i => i = ps ∨ i = p3) w' ∧ Mod (fun i => i = ps ∨ i = p3) wn w') := fun c a w' h => by cases h.1
    have HK2 := Lib.hid kp2
    have HK3 : Hid (wn.heap[p3]? = some (.cells #[.int .i64 (e0 : Int)] 42 (0, 0))) := Lib.hid (by simpa using kp3)
    refine wp_gpass (T0 := fun _ => False) (K := fun _ _ => True) (κ := fun i => [0, 0, 6, 6].getD i 0) (υ := fun i => [[], [], [], []].getD i []) [0, 1, 2, 3] (by kernel_rfl) (by kernel_rfl) (Good.true).cl (trivial) (fun _ h => h.elim) ?_
    have gK := Good.true
    (refine TG.load (v := ?v11) (p := ?p11) (by simp only [zK]; rfl) rfl (by rfl) rfl ?hx11 (fun wq hSq => ?y11) ?n11; (case hx11 => simp only [Act.eval, zM]; try rfl); (case y11 => (exact HLX.out _ (hSq.at0 HK2.out))); try simp only [Act.put, zL])
    (refine TG.load (v := ?v12) (p := ?p12) (by simp only [zK]; rfl) rfl (by rfl) rfl ?hx12 (fun wq hSq => ?y12) ?n12; (case hx12 => simp only [Act.eval, zM]; try rfl); (case y12 => (exact ldE3 (hSq.at0 HK3.out))); try simp only [Act.put, zL])
    (refine TG.storeU (X := ?X13) (Y := ?Y13) (fun _ _ => True) (Good.true) (by simp only [zK]; rfl) rfl (by rfl) rfl rfl ?hx13 ?hz13 (fun T wq hSq kq => ?y13) (fun _ => ?n13); (case hx13 => simp only [Act.eval, zM]; try rfl); (case hz13 => simp only [Act.eval, zM]; try rfl); (case y13 => (exact ⟨wq, by have := run_store_box (P := Tryz.prog) (T := 35) (hSq.at0 HK2.out) (by rw [HXS.out.1]; kernel_rfl) rfl HXS.out.2; rw [setBlock_same (hSq.at0 HK2.out)] at this; exact this, Mod.refl _ _, trivial⟩)); replace gK := (Good.true); try simp only [Act.put, zL])
    (refine TG.storeU (X := ?X14) (Y := ?Y14) (fun _ _ => True) (Good.true) (by simp only [zK]; rfl) rfl (by rfl) rfl rfl ?hx14 ?hz14 (fun T wq hSq kq => ?y14) (fun _ => ?n14); (case hx14 => simp only [Act.eval, zM]; try rfl); (case hz14 => simp only [Act.eval, zM]; try rfl); (case y14 => (exact ⟨wq, by have : (Instr.storeAt 42 (pV p3) (.int .i64 (e0 : Int))).run Tryz.prog wq = .ok () (setBlock wq p3 (.cells #[.int .i64 (e0 : Int)] 42 (0, 0))) := run_store_one (hSq.at0 HK3.out) (by kernel_rfl) (by simp) rfl; rw [setBlock_same (hSq.at0 HK3.out)] at this; exact this, Mod.refl _ _, trivial⟩)); replace gK := (Good.true); try simp only [Act.put, zL])
    refine TG.nil (fun w3 ⟨TR, hr⟩ => ?_)
    clear gK
    exact ⟨rfl, ⟨rfl, rfl, rfl⟩, ⟨⟨.inl rfl, hr.mod.at0 HK2.out⟩, .inr rfl, hr.mod.at0 HK3.out⟩, hr.mod.mono (fun _ _ h => h.elim)⟩
   ·rintro e a' w3 ⟨rfl, ha, hG, hm⟩
    obtain ⟨tm, df⟩ := a'
    obtain ⟨h2, h3, h5⟩ := ha
    simp only at h2 h3 h5
    subst h5
    go_wp2_with fail
    refine leaves_cons (f := 53) (args := #[pV p3, pV ps]) (by simp) (by simp [go_sem]) ?_
    refine (wire1_c (n := e0) hG.1.2 hG.2.2 HXS.out.1 HNE.out).mono ?_
    rintro e u' w4 ⟨rfl, rfl, k2, k3, m4⟩
    refine ⟨_, results_cell2 rfl h2 h3 (ldX (by split; exact HXS.out.1; exact zTc_size) k2) (ldE3 k3), ?_⟩
    exact HFIN.out w4 (hm.then m4 (fun i _ e => .inl e))
  | ok x =>
   rw [hres] at hr
   obtain ⟨r, hv0, hO, hrx, hB⟩ := hr
   cases hv0
   obtain ⟨nc, hnc⟩ : ∃ nc, chkP (txP r) = nc := ⟨_, rfl⟩
   have HFN : Hid (∀ wz, Mod (fun _ => False) w wz → TxO w1.heap.size wz r → WirP w l (.returned (.tuple #[.agg (if nc = 0 then txr r else zTc), .int .i64 (nc : Int)])) wz) := Lib.hid (fun wz m ho => by
    have hw : wireP l = if nc = 0 then .ok x else .error nc := by unfold wireP; rw [hres, ← hnc, hrx]
    refine ⟨m, ?_⟩
    rw [hw]
    by_cases h0 : nc = 0
    ·rw [if_pos h0, if_pos h0]
     subst h0
     exact ⟨r, rfl, ho.base HM1.out.size, hrx, hB⟩
    ·rw [if_neg h0, if_neg h0])
   have HO := Lib.hid (And.intro hO (And.intro hrx (And.intro hB hnc)))
   clear hres hO hrx hB hnc
   (try simp only [Act.put, zL])
   obtain ⟨w4, rfl⟩ : ∃ w4 : World, w4 = wn := ⟨_, rfl⟩
   iterate 3 (refine sq_val (v := ?_) (by simp only [zK]; rfl) (by rfl) ?_ ?_; rotate_left; (next => go_simp; try with_reducible rfl); try simp only [Act.put, zL])
   (refine sq_store (X := ?X18) (Y := ?Y18) (w' := ?w18) (by simp only [zK]; rfl) (by rfl) rfl rfl ?hx18 ?hz18 ?y18 ?n18; (case hx18 => simp only [Act.eval, zM]; try rfl); (case hz18 => simp only [Act.eval, zM]; try rfl); (case y18 => go_simp; try with_reducible rfl))
   (first | refine sq_set kp2 (fun wn kp2 mS => ?_) | refine sq_setCell kp2 (fun wn kp2 mS => ?_))
   have HM5 : Hid (Mod (fun i => i = ps ∨ i = p3) w4 wn) := Lib.hid (mS.mono (fun i _ e => .inl e))
   replace kp3 := mS.at_ne kp3 HNE.out.symm
   replace kp2 : wn.heap[ps]? = some (.cells (txr r) 35 (0, 0)) := kp2
   clear mS
   obtain ⟨w5, rfl⟩ : ∃ w5 : World, w5 = wn := ⟨_, rfl⟩
   (refine sq_store (X := ?X19) (Y := ?Y19) (w' := ?w19) (by simp only [zK]; rfl) (by rfl) rfl rfl ?hx19 ?hz19 ?y19 ?n19; (case hx19 => simp only [Act.eval, zM]; try rfl); (case hz19 => simp only [Act.eval, zM]; try rfl); (case y19 => go_simp; try with_reducible rfl))
   (first | refine sq_set kp3 (fun wn kp3 mS => ?_) | refine sq_setCell kp3 (fun wn kp3 mS => ?_))
   refine sq_nil ?_
   have HM6 : Hid (Mod (fun i => i = ps ∨ i = p3) w4 wn) := Lib.hid (HM5.out.then mS (fun i _ e => .inr e))
   replace kp2 := mS.at_ne kp2 HNE.out
   clear mS
   have HO6 : Hid (TxO w1.heap.size wn r) := Lib.hid (HO.out.1.mod HM6.out (Apt.below (fun i e => by have := HS.out; omega)))
   obtain ⟨w6, rfl⟩ : ∃ w6 : World, w6 = wn := ⟨_, rfl⟩
   have hC := check_c r w6 (HO6.out.rd (by rw [HO.out.2.1]; exact HO.out.2.2.1))
   rw [HO.out.2.2.2] at hC
   go_upto_region 4 with fail
   refine region_seq 3 rfl ?_
   simp only [List.range, List.range.loop]
   (refine sq_load (v := ?v20) (p := ?p20) (by simp only [zK]; rfl) (by rfl) rfl ?hx20 ?y20 ?n20; (case hx20 => simp only [Act.eval, zM]; try rfl); (case y20 => go_simp; try with_reducible rfl); try simp only [Act.put, zL])
   (refine sq_callT (by simp only [zK]; rfl) (by rfl) ?y21 hC ?hout (fun vn wn hR => ?hret) (fun ch wn hR => ?hpan); (case y21 => (go_simp; (try (first | with_reducible rfl | (constructor <;> with_reducible rfl))))))
   case hout => exact fun w' h => by cases h.1
   case hpan => cases hR.1
   case hret =>
   obtain ⟨e1, hm⟩ := hR
   cases e1
   clear hC
   replace kp2 := hm.at0 kp2
   replace kp3 := hm.at0 kp3
   have HM7 := Lib.hid (HM6.out.then0 hm)
   clear hm
   (try simp only [Act.put, zL])
   obtain ⟨w7, rfl⟩ : ∃ w7 : World, w7 = wn := ⟨_, rfl⟩
   (refine sq_store (X := ?X22) (Y := ?Y22) (w' := ?w22) (by simp only [zK]; rfl) (by rfl) rfl rfl ?hx22 ?hz22 ?y22 ?n22; (case hx22 => simp only [Act.eval, zM]; try rfl); (case hz22 => simp only [Act.eval, zM]; try rfl); (case y22 => go_simp; try with_reducible rfl))
   (first | refine sq_set kp3 (fun wn kp3 mS => ?_) | refine sq_setCell kp3 (fun wn kp3 mS => ?_))
   refine sq_nil ?_
   have HM8 : Hid (Mod (fun i => i = ps ∨ i = p3) w4 wn) := Lib.hid (HM7.out.then mS (fun i _ e => .inr e))
   replace kp2 := mS.at_ne kp2 HNE.out
   clear mS
   have HXS : Hid ((txr r).size = 40 ∧ (txr r).all (·.oneCell') = true) := Lib.hid ⟨txr_size r, txr_one' r⟩
   have HFIN : Hid (∀ wz, Mod (fun i => i = ps ∨ i = p3) wn wz → WirP w l (.returned (.tuple #[.agg (if nc = 0 then txr r else zTc), .int .i64 (nc : Int)])) wz) := Lib.hid (fun wz m => by
    have hm9 := HM8.out.trans m
    exact HFN.out wz (HM3.out.then hm9 (fun i hi e => by have := HS.out; omega)) (HO.out.1.mod hm9 (Apt.below (fun i e => by have := HS.out; omega))))
   have hxz : (Instr.loadAt 35 (pV ps)).run Tryz.prog wn = .ok (.agg (txr r)) wn := ldX HXS.out.1 kp2
   have HLX : Hid (∀ w' : World, w'.heap[ps]? = some (.cells (txr r) 35 (0, 0)) → (Instr.loadAt 35 (pV ps)).run Tryz.prog w' = .ok (.agg (txr r)) w') := Lib.hid (fun w' h => ldX HXS.out.1 h)
   clear hxz
   go_upto_region 5 with fail
   refine wp_mono (Q := fun e a' w' => e = .normal ∧ (a'.tmps.getD 2 undef = pV ps ∧ a'.tmps.getD 3 undef = pV p3 ∧ a'.defers = [{ target := .fn (.func 53) #[pV p3, pV ps], args := #[] }]) ∧ G2 ps p3 (txr r) (nc : Int) (fun i => i = ps ∨ i = p3) w' ∧ Mod (fun i => i = ps ∨ i = p3) wn w') ?_ ?_
   ·have hP : ∀ (c : List PanicEntry) (a : Act) (w' : World), ¬ ((Exit.panic c = Exit.normal) ∧ (a.tmps.getD 2 undef = pV ps ∧ a.tmps.getD 3 undef = pV p3 ∧ a.defers = [{ target := .fn (.func 53) #[pV p3, pV ps], args := #[] }]) ∧ G2 ps p3 (txr r) (nc : Int) (fun i => i = ps ∨ i = p3) w' ∧ Mod (fun i => i = ps ∨ i = p3) wn w') := fun c a w' h => by cases h.1
    have HK2 := Lib.hid kp2
    have HK3 : Hid (wn.heap[p3]? = some (.cells #[.int .i64 (nc : Int)] 42 (0, 0))) := Lib.hid (by simpa using kp3)
    refine wp_gpass (T0 := fun _ => False) (K := fun _ _ => True) (κ := fun i => [0, 0, 6, 6].getD i 0) (υ := fun i => [[], [], [], []].getD i []) [0, 1, 2, 3] (by kernel_rfl) (by kernel_rfl) (Good.true).cl (trivial) (fun _ h => h.elim) ?_
    have gK := Good.true
    (refine TG.load (v := ?v23) (p := ?p23) (by simp only [zK]; rfl) rfl (by rfl) rfl ?hx23 (fun wq hSq => ?y23) ?n23; (case hx23 => simp only [Act.eval, zM]; try rfl); (case y23 => (exact HLX.out _ (hSq.at0 HK2.out))); try simp only [Act.put, zL])
    (refine TG.load (v := ?v24) (p := ?p24) (by simp only [zK]; rfl) rfl (by rfl) rfl ?hx24 (fun wq hSq => ?y24) ?n24; (case hx24 => simp only [Act.eval, zM]; try rfl); (case y24 => (exact ldE3 (hSq.at0 HK3.out))); try simp only [Act.put, zL])
    (refine TG.storeU (X := ?X25) (Y := ?Y25) (fun _ _ => True) (Good.true) (by simp only [zK]; rfl) rfl (by rfl) rfl rfl ?hx25 ?hz25 (fun T wq hSq kq => ?y25) (fun _ => ?n25); (case hx25 => simp only [Act.eval, zM]; try rfl); (case hz25 => simp only [Act.eval, zM]; try rfl); (case y25 => (exact ⟨wq, by have := run_store_box (P := Tryz.prog) (T := 35) (hSq.at0 HK2.out) (by rw [HXS.out.1]; kernel_rfl) rfl HXS.out.2; rw [setBlock_same (hSq.at0 HK2.out)] at this; exact this, Mod.refl _ _, trivial⟩)); replace gK := (Good.true); try simp only [Act.put, zL])
    (refine TG.storeU (X := ?X26) (Y := ?Y26) (fun _ _ => True) (Good.true) (by simp only [zK]; rfl) rfl (by rfl) rfl rfl ?hx26 ?hz26 (fun T wq hSq kq => ?y26) (fun _ => ?n26); (case hx26 => simp only [Act.eval, zM]; try rfl); (case hz26 => simp only [Act.eval, zM]; try rfl); (case y26 => (exact ⟨wq, by have : (Instr.storeAt 42 (pV p3) (.int .i64 (nc : Int))).run Tryz.prog wq = .ok () (setBlock wq p3 (.cells #[.int .i64 (nc : Int)] 42 (0, 0))) := run_store_one (hSq.at0 HK3.out) (by kernel_rfl) (by simp) rfl; rw [setBlock_same (hSq.at0 HK3.out)] at this; exact this, Mod.refl _ _, trivial⟩)); replace gK := (Good.true); try simp only [Act.put, zL])
    refine TG.nil (fun w3 ⟨TR, hr⟩ => ?_)
    clear gK
    exact ⟨rfl, ⟨rfl, rfl, rfl⟩, ⟨⟨.inl rfl, hr.mod.at0 HK2.out⟩, .inr rfl, hr.mod.at0 HK3.out⟩, hr.mod.mono (fun _ _ h => h.elim)⟩
   ·rintro e a' w3 ⟨rfl, ha, hG, hm⟩
    obtain ⟨tm, df⟩ := a'
    obtain ⟨h2, h3, h5⟩ := ha
    simp only at h2 h3 h5
    subst h5
    go_wp2_with fail
    refine leaves_cons (f := 53) (args := #[pV p3, pV ps]) (by simp) (by simp [go_sem]) ?_
    refine (wire1_c (n := nc) hG.1.2 hG.2.2 HXS.out.1 HNE.out).mono ?_
    rintro e u' w4 ⟨rfl, rfl, k2, k3, m4⟩
    refine ⟨_, results_cell2 rfl h2 h3 (ldX (by split; exact HXS.out.1; exact zTc_size) k2) (ldE3 k3), ?_⟩
    exact HFIN.out w4 (hm.then m4 (fun i _ e => .inl e))
end Go.Proofs.YtiaehkkkcaeaiaaGreatDoor
namespace Go.Proofs.YtiaehkkkcaeaiaaGreatDoor
section
variable {P : Program} {ops : Array Oper} {Q : Exit → Act → World → Prop} {S : World → Prop} {C : FuncId → Array Value → Value → Prop} {w0 : World} {κ : Nat → Nat}
theorem TD.mks {i : Nat} {r : List Nat} {a : Act} {B : Bx} {o : Oper} {d : Tmp} {T E : TypeId} {n m : Nat} {x y : Operand} {X Y : Value} {z : Array Value} (ho : ops[i]? = some o) (hk : κ i = 3)
  (hw : Region.wanted o (yielded ops a.tmps) = true) (hd : o.dst = some d) (hop : o.op = .makeSlice T x y) (hx : a.eval x = X) (hy : a.eval y = Y)
  (hr : ∀ w, (Instr.makeSlice T X Y).run P w = .ok (.slice (some ⟨w.heap.size, 0, none⟩) n m) (w.alloc (.cells z E)))
  (h : ∀ p, B p = none → TD P ops Q S C w0 κ r (a.put o.dst (.slice (some ⟨p, 0, none⟩) n m)) (B.set p ⟨z, E, d⟩)) : TD P ops Q S C w0 κ (i :: r) a B :=
 .alloc (fun p => .slice (some ⟨p, 0, none⟩) n m) ho hk hw hd (fun w => by subst hx; subst hy; simp [execOp, hop, hr w]) h
end
end Go.Proofs.YtiaehkkkcaeaiaaGreatDoor
namespace Go.Proofs.YtiaehkkkcaeaiaaGreatDoor
open Go.RowKit
open Go.ChangeMaps (setBlock)
attribute [local go_sem ↓] wlKey ldKey stKey ldSg stSg wlTc ldTc stTc eqKey1
attribute [local go_sem] cell_blk frozen_blk kc_ext one_int one_bool one_ptr one_slice one_map kc_one kc_one0 kc_size zKey_size sgc_size sgc_ext sgc_one0 sgc_one' txr_size txr_all txr_one txr_one' txr0 txr38 txr39 txr0' txr38' txr39' zTx_size Value.cells
set_option maxRecDepth 20000 in
set_option maxHeartbeats 1600000 in
theorem copied_c (a : Option Addr) (l : List Key) (c : Nat) (w : World) (hl : SlAt kc 32 w a l) (hn : a = none → c = 0) (hb : l.length ≤ 1000000) : Calls Tryz.prog 83 #[.slice a l.length c] w fun e w' => ∃ v, e = .returned v ∧ NewS kc 32 82 w.heap.size w' v l ∧ Mod (fun _ => False) w w' := by
 obtain ⟨n, hnl⟩ : ∃ n, l.length = n := ⟨_, rfl⟩
 rw [hnl] at hb
 obtain ⟨cur, hcs, hmk⟩ := makeT keysT n (by omega) (by omega)
 have hcp : ∀ w1 p, Mod (fun _ => False) w w1 → w1.heap[p]? = some (.cells cur 82 (0, 0)) → ∃ k, ∀ ty, (Builtin.copy_ #[27, 27] ty #[.slice (some ⟨p, 0, none⟩) n n, .slice a n c]).run Tryz.prog w1 = .ok (goInt k) (setBlock w1 p (.cells (cellsOf kc l).toArray 82 (0, 0))) := fun w1 p m hp => by
  cases a with
  | none =>
   have hl0 : l = [] := by
    rcases hl with h | ⟨_, _, _, _, _, h, _⟩
    ·exact h
    ·cases h
   subst hl0
   simp at hnl
   subst hnl
   rw [hn rfl]
   refine ⟨0, fun ty => ?_⟩
   have h1 := copyT0 (ty := ty) (m := 0) (cap := 0) (p := p) keysT w1
   have h2 : cur = #[] := by
    apply Array.eq_empty_of_size_eq_zero
    rw [hcs]
   rw [h2] at hp
   rw [show (cellsOf kc []).toArray = #[] from rfl, setBlock_same hp]
   exact h1
  | some ad =>
   refine ⟨n, fun ty => ?_⟩
   have h1 := copyT (ty := ty) (p := p) (cap := n) (c := c) keysT (hl.mod0 m) hp (by rw [hcs, hnl])
   rw [hnl] at h1
   exact h1
 have HCP := Lib.hid hcp
 have HNL := Lib.hid hnl
 rw [hnl]
 clear hl hn hcp hnl hcs
 go_enter Tryz.func83, Tryz.ntmps83
 go_upto_region 1 with fail
 refine wp_pass0 (C := fun _ _ _ => False) (κ := fun i => [0, 0, 3, 0].getD i 0) [0, 1, 2, 3] (by kernel_rfl) (by kernel_rfl) (fun _ _ d _ _ h => by cases d <;> first | exact h | exact absurd h (hP _ _ _)) ?_
 iterate 2 (refine TD.val0 (v := ?_) (by simp only [zK]; rfl) rfl (by rfl) (fun w1 => ?_) ?_; rotate_left; (next => go_simp; try with_reducible rfl); try simp only [Act.put, zL])
 (refine TD.mks (by simp only [zK]; rfl) rfl (by rfl) rfl rfl ?hx3 ?hz3 hmk (fun p6 hp6 => ?n3); (case hx3 => simp only [Act.eval, zM]; try rfl); (case hz3 => simp only [Act.eval, zM]; try rfl); try simp only [Act.put, zL])
 (refine TD.val0 (v := ?_) (by simp only [zK]; rfl) rfl (by rfl) (fun w1 => ?_) ?_; rotate_left; (next => go_simp; try with_reducible rfl); try simp only [Act.put, zL])
 refine TD.nil (fun w1 hr => ?_)
 have kp6 := hr.box p6 _ (by first | exact Bx.set_same _ _ _ | (simp only [Bx.set_same]; rfl)); dsimp only [Value.cells] at kp6; obtain ⟨gp6, kp6⟩ := kp6
 have HM1 := Lib.hid hr.mod
 have HG := Lib.hid gp6
 clear hr hmk gp6
 go_upto_region 2 with fail
 have Lkp6 := lt_size kp6
 refine wp_pass0 (C := fun _ _ _ => False) (κ := fun i => [0, 0, 5].getD i 0) [0, 1, 2] (by kernel_rfl) (by kernel_rfl) (fun _ _ d _ _ h => by cases d <;> first | exact h | exact absurd h (hP _ _ _)) ?_
 iterate 2 (refine TD.val0 (v := ?_) (by simp only [zK]; rfl) rfl (by rfl) (fun w1 => ?_) ?_; rotate_left; (next => go_simp; try with_reducible rfl); try simp only [Act.put, zL])
 refine TD.eff (by simp only [zK]; rfl) rfl (fun w2 hr => ?_)
 replace kp6 := hr.mod.at kp6 (fun h => h)
 obtain ⟨k, hcpy⟩ := HCP.out w2 p6 (HM1.out.then0 hr.mod) kp6
 have HM2 := Lib.hid (HM1.out.then0 hr.mod)
 clear hr
 (refine eff_copy (by simp only [zK]; rfl) (by rfl) rfl ?hx8 ?hz8 (hcpy _) ?n8; (case hx8 => simp only [Act.eval, zM]; try rfl); (case hz8 => simp only [Act.eval, zM]; try rfl); try simp only [Act.put, zL])
 refine TE.nil_set kp6 (fun wn kp6 mS => ?_)
 have HF : Hid (NewS kc 32 82 w.heap.size wn (.slice (some ⟨p6, 0, none⟩) l.length l.length) l ∧ Mod (fun _ => False) w wn) := Lib.hid ⟨NewS.made keysT HG.out kp6, HM2.out.thenB mS (.inl HG.out)⟩
 have hf := HF.out
 rw [HNL.out] at hf
 have HF2 := Lib.hid hf
 clear kp6 mS hf HF
 go_wp2_with fail
 go_ret
 exact ⟨_, rfl, HF2.out.1, HF2.out.2⟩
end Go.Proofs.YtiaehkkkcaeaiaaGreatDoor
namespace Go.Proofs.YtiaehkkkcaeaiaaGreatDoor
open Go.RowKit
open Go.ChangeMaps (setBlock)
attribute [local go_sem ↓] wlKey ldKey stKey ldSg stSg wlTc ldTc stTc eqKey1
attribute [local go_sem] cell_blk frozen_blk kc_ext one_int one_bool one_ptr one_slice one_map kc_one kc_one0 kc_size zKey_size sgc_size sgc_ext sgc_one0 sgc_one' txr_size txr_all txr_one txr_one' txr0 txr38 txr39 txr0' txr38' txr39' zTx_size Value.cells
def slK (s : Sl Key) : Value := .slice s.a s.l.length s.c
theorem neMapR (w : World) (r : Option Nat) : (binOp .neq 46 (.map r) (.map none)).run Tryz.prog w = .ok (.bool !r.isNone) w := run_neq_map_nil w _ _ _ _ Tryz.underlying46
theorem bReg (m : Option Nat) (w : World) : (Instr.build 48 #[(0, .map m)]).run Tryz.prog w = .ok (.agg #[.map m]) w := by kernel_rfl
theorem slK_zero (w : World) : (zeroValue 27).run Tryz.prog w = .ok (slK ⟨none, [], 0⟩) w := by kernel_rfl
def RegM (h r : Nat) (M : List (Key × Sl Key)) (w : World) : Prop := w.heap[r]? = some (.cells #[.map (some h)] 48 (0, 0)) ∧ ∃ es c, w.heap[h]? = some (.map es c) ∧ MapIs kv slK es c M
def tbOf (M : List (Key × Sl Key)) : TbL := M.map (fun x => (x.1, x.2.l))
def RegA (b h r : Nat) (T : TbL) (w : World) : Prop := ∃ M, RegM h r M w ∧ tbOf M = T ∧ (∀ x ∈ M, NewS kc 32 82 b w (slK x.2) x.2.l ∧ x.2.l.length ≤ 256) ∧ b ≤ h ∧ b ≤ r
theorem RegM.mod {h r : Nat} {M : List (Key × Sl Key)} {w w' : World} {S : Nat → Prop} (H : RegM h r M w) (hm : Mod S w w') (h1 : ¬ S h) (h2 : ¬ S r) : RegM h r M w' := by
 obtain ⟨k1, es, c, k2, k3⟩ := H
 exact ⟨hm.at k1 h2, es, c, hm.at k2 h1, k3⟩
theorem RegA.mod {b h r : Nat} {T : TbL} {w w' : World} {S : Nat → Prop} (H : RegA b h r T w) (hm : Mod S w w') (hS : ∀ i, b ≤ i → i < w.heap.size → ¬ S i) : RegA b h r T w' := by
 obtain ⟨M, H1, H2, H3, H4, H5⟩ := H
 refine ⟨M, H1.mod hm (hS h H4 ?_) (hS r H5 (lt_size H1.1)), H2, fun x hx => ⟨(H3 x hx).1.mod hm (fun g hg => ?_), (H3 x hx).2⟩, H4, H5⟩
 ·obtain ⟨_, es, c, k2, _⟩ := H1
  exact lt_size k2
 ·have := (H3 x hx).1.lt g hg
  exact hS g this.1 this.2
theorem RegA.mod0 {b h r : Nat} {T : TbL} {w w' : World} (H : RegA b h r T w) (hm : Mod (fun _ => False) w w') : RegA b h r T w' := H.mod hm (fun _ _ _ h => h)
theorem lkp_tb (M : List (Key × Sl Key)) (k : Key) : tbFind (tbOf M) k = (lkp k M).map (·.l) := by
 unfold tbFind tbOf
 induction M with
 | nil => rfl
 | cons x M ih =>
  unfold lkp
  by_cases h : x.1 = k
  ·simp [h]
  ·simp only [List.map_cons, List.find?_cons, if_neg h]
   rw [show (decide (x.1 = k)) = false from decide_eq_false h]
   exact ih
set_option maxRecDepth 20000 in
theorem there_c {r m : Nat} (w : World) (kr : w.heap[r]? = some (.cells #[.map (some m)] 48 (0, 0))) : Calls Tryz.prog 82 #[pV r] w fun e w' => e = .returned (.bool true) ∧ w' = w := by
 have hne := neMapR
 go_enter Tryz.func82, Tryz.ntmps82
 go_wp2_with fail
 go_ret
 exact ⟨rfl, rfl⟩
set_option maxRecDepth 20000 in
theorem thereV_c {r : Nat} (w : World) (kr : w.heap[r]? = some (.cells #[.map none] 48 (0, 0))) : Calls Tryz.prog 82 #[pV r] w fun e w' => e = .returned (.bool false) ∧ w' = w := by
 have hne := neMapR
 go_enter Tryz.func82, Tryz.ntmps82
 go_wp2_with fail
 go_ret
 exact ⟨rfl, rfl⟩
theorem thereN_c (w : World) : Calls Tryz.prog 82 #[.pointer none] w fun e w' => e = .returned (.bool false) ∧ w' = w := by
 go_enter Tryz.func82, Tryz.ntmps82
 go_wp2_with fail
 go_ret
 exact ⟨rfl, rfl⟩
theorem newT_c (w : World) : Calls Tryz.prog 33 #[] w fun e w' => ∃ h r, e = .returned (pV r) ∧ RegA w.heap.size h r [] w' ∧ Mod (fun _ => False) w w' := by
 have hmm := @run_makeMap Tryz.prog
 have hbd := bReg
 go_enter Tryz.func33, Tryz.ntmps33
 go_wp2_with fail
 go_ret
 obtain ⟨h1, h2⟩ := fresh2 w (.map #[] 0) (.cells #[.map (some w.heap.size)] 48)
 exact ⟨w.heap.size, _, rfl, ⟨[], ⟨h2, _, _, h1, MapIs.empty kv slK⟩, rfl, fun x hx => (by cases hx), by omega, by omega⟩, ((Mod.refl _ _).alloc _).alloc _⟩
set_option maxRecDepth 20000 in
theorem findN_c (k : Key) (w : World) : Calls Tryz.prog 34 #[.pointer none, .agg (kc k)] w fun e w' => e = .returned (.tuple #[.slice none 0 0, .int .i64 2]) ∧ Mod (fun _ => False) w w' := by
 go_enter Tryz.func34, Tryz.ntmps34
 go_upto_region 0 with fail
 refine wp_pass0 (C := fun _ _ _ => False) (κ := fun i => [3, 0, 0].getD i 0) [0, 1, 2] (by kernel_rfl) (by kernel_rfl) (fun _ _ d _ _ h => by cases d <;> first | exact h | exact absurd h (hP _ _ _)) ?_
 (refine TD.box (v := ?v1) (by simp only [zK]; rfl) rfl (by rfl) rfl rfl ?hx1 (fun p3 hp3 => ?n1); (case hx1 => simp only [Act.eval, zM]; try rfl); try simp only [Act.put, zL])
 iterate 2 (refine TD.val0 (v := ?_) (by simp only [zK]; rfl) rfl (by rfl) (fun w1 => ?_) ?_; rotate_left; (next => go_simp; try with_reducible rfl); try simp only [Act.put, zL])
 refine TD.nil (fun w1 hr => ?_)
 have kp3 := hr.box p3 _ (by first | exact Bx.set_same _ _ _ | (simp only [Bx.set_same]; rfl)); dsimp only [Value.cells] at kp3; obtain ⟨gp3, kp3⟩ := kp3
 have m1 := hr.mod
 clear hr
 go_wp2_with fail
 go_at_call 82
 refine (thereN_c _).mono ?_
 rintro e w2 ⟨rfl, rfl⟩
 go_wp2_with fail
 exact bodyPost_ret (results_tmp2 rfl _ _ _) rfl ⟨rfl, m1⟩
set_option maxRecDepth 20000 in
theorem findV_c {r : Nat} (k : Key) (w : World) (kr : w.heap[r]? = some (.cells #[.map none] 48 (0, 0))) : Calls Tryz.prog 34 #[pV r, .agg (kc k)] w fun e w' => e = .returned (.tuple #[.slice none 0 0, .int .i64 2]) ∧ Mod (fun _ => False) w w' := by
 go_enter Tryz.func34, Tryz.ntmps34
 go_upto_region 0 with fail
 have Lkr := lt_size kr
 refine wp_pass0 (C := fun _ _ _ => False) (κ := fun i => [3, 0, 0].getD i 0) [0, 1, 2] (by kernel_rfl) (by kernel_rfl) (fun _ _ d _ _ h => by cases d <;> first | exact h | exact absurd h (hP _ _ _)) ?_
 (refine TD.box (v := ?v4) (by simp only [zK]; rfl) rfl (by rfl) rfl rfl ?hx4 (fun p3 hp3 => ?n4); (case hx4 => simp only [Act.eval, zM]; try rfl); try simp only [Act.put, zL])
 iterate 2 (refine TD.val0 (v := ?_) (by simp only [zK]; rfl) rfl (by rfl) (fun w1 => ?_) ?_; rotate_left; (next => go_simp; try with_reducible rfl); try simp only [Act.put, zL])
 refine TD.nil (fun w1 hr => ?_)
 replace kr := hr.mod.at kr (fun h => h)
 have kp3 := hr.box p3 _ (by first | exact Bx.set_same _ _ _ | (simp only [Bx.set_same]; rfl)); dsimp only [Value.cells] at kp3; obtain ⟨gp3, kp3⟩ := kp3
 have m1 := hr.mod
 clear hr
 go_wp2_with fail
 go_at_call 82
 refine (thereV_c _ kr).mono ?_
 rintro e w2 ⟨rfl, rfl⟩
 go_wp2_with fail
 exact bodyPost_ret (results_tmp2 rfl _ _ _) rfl ⟨rfl, m1⟩
set_option maxRecDepth 20000 in
set_option maxHeartbeats 1600000 in
theorem findE_c {b h r : Nat} {T : TbL} (k : Key) (w : World) (H : RegA b h r T w) : Calls Tryz.prog 34 #[pV r, .agg (kc k)] w fun e w' => (∃ v, e = .returned (.tuple #[v, .int .i64 (if (tbFind T k).isSome then 0 else 11)])) ∧ Mod (fun _ => False) w w' := by
 obtain ⟨M, ⟨kr, es, cl, kh, HM⟩, rfl, H3, H4, H5⟩ := id H
 rw [lkp_tb]
 have hlk : ∀ wq, wq.heap[h]? = some (.map es cl) → (Instr.lookup 46 (.map (some h)) (.agg (kc k)) true).run Tryz.prog wq = .ok (.tuple #[((lkp k M).map slK).getD (slK ⟨none, [], 0⟩), .bool (lkp k M).isSome]) wq := fun wq hq => HM.lookup keyTR Tryz.underlying46 slK_zero wq hq k true
 have H3' := Lib.hid H3
 cases hk : lkp k M with
 | none =>
  rw [hk] at hlk
  simp only [Option.map_none, Option.getD_none, Option.isSome_none] at hlk
  have hlk2 : ∀ wq, Mod (fun _ => False) w wq → (Instr.lookup 46 (.map (some h)) (.agg (kc k)) true).run Tryz.prog wq = .ok (.tuple #[.slice none 0 0, .bool false]) wq := fun wq hq => hlk wq (hq.at0 kh)
  have HLK := Lib.hid hlk2
  clear hlk hlk2 H3 HM hk H
  go_enter Tryz.func34, Tryz.ntmps34
  go_upto_region 0 with fail
  have Lkr := lt_size kr
  refine wp_pass0 (C := fun _ _ _ => False) (κ := fun i => [3, 0, 0].getD i 0) [0, 1, 2] (by kernel_rfl) (by kernel_rfl) (fun _ _ d _ _ h => by cases d <;> first | exact h | exact absurd h (hP _ _ _)) ?_
  (refine TD.box (v := ?v7) (by simp only [zK]; rfl) rfl (by rfl) rfl rfl ?hx7 (fun p3 hp3 => ?n7); (case hx7 => simp only [Act.eval, zM]; try rfl); try simp only [Act.put, zL])
  iterate 2 (refine TD.val0 (v := ?_) (by simp only [zK]; rfl) rfl (by rfl) (fun w1 => ?_) ?_; rotate_left; (next => go_simp; try with_reducible rfl); try simp only [Act.put, zL])
  refine TD.nil (fun w1 hr => ?_)
  replace kr := hr.mod.at kr (fun h => h)
  have kp3 := hr.box p3 _ (by first | exact Bx.set_same _ _ _ | (simp only [Bx.set_same]; rfl)); dsimp only [Value.cells] at kp3; obtain ⟨gp3, kp3⟩ := kp3
  have m1 := hr.mod
  clear hr
  go_wp2_with fail
  go_at_call 82
  refine (there_c _ kr).mono ?_
  rintro e w2 ⟨rfl, rfl⟩
  have hlk3 : ∀ wq, Mod (fun _ => False) w2 wq → (Instr.lookup 46 (.map (some h)) (.agg (kc k)) true).run Tryz.prog wq = .ok (.tuple #[.slice none 0 0, .bool false]) wq := fun wq hq => HLK.out wq (m1.trans hq)
  go_upto_region 3 with fail
  have Lkr := lt_size kr
  have Lkp3 := lt_size kp3
  refine wp_pass (C := fun _ _ _ => False) (κ := fun i => [0, 0, 0, 1, 1, 1, 0, 0, 0, 0, 0].getD i 0) [0, 1, 2, 3, 4, 5, 6, 7, 8, 9, 10] (by kernel_rfl) (by kernel_rfl) (fun _ _ d _ _ h => by cases d <;> first | exact h | exact absurd h (hP _ _ _)) ?_
  iterate 5 first | (refine TD.val0 (v := ?_) (by simp only [zK]; rfl) rfl (by rfl) (fun w1 => ?_) ?_; rotate_left; (next => go_simp; try with_reducible rfl); try simp only [Act.put, zL]) | (refine TD.load (v := ?_) (p := ?_) (Mod.refl _ _) (by simp only [zK]; rfl) rfl (by rfl) rfl ?_ (fun wq hSq => ?_) ?_; rotate_left 2; (next => simp only [Act.eval, zM]; try rfl); (next => have krq := hSq.at kr (fun h => h); have kp3q := hSq.at kp3 (fun h => h); go_simp; try with_reducible rfl); try simp only [Act.put, zL])
  (refine TD.lookup (v := ?v15) (p := ?p15) (q := ?q15) (Mod.refl _ _) (by simp only [zK]; rfl) rfl (by rfl) rfl ?hx15 ?hz15 (fun wq hSq => ?y15) ?n15; (case hx15 => simp only [Act.eval, zM]; try rfl); (case hz15 => simp only [Act.eval, zM]; try rfl); (case y15 => (rw [hlk3 wq hSq]; (try with_reducible rfl))); try simp only [Act.put, zL])
  iterate 5 (refine TD.val0 (v := ?_) (by simp only [zK]; rfl) rfl (by rfl) (fun w1 => ?_) ?_; rotate_left; (next => go_simp; try with_reducible rfl); try simp only [Act.put, zL])
  refine TD.nil (fun w3 hr => ?_)
  replace kr := hr.mod.at kr (fun h => h)
  replace kp3 := hr.mod.at kp3 (fun h => h)
  have m3 := m1.then0 hr.mod
  clear hr hlk3
  go_wp2_with fail
  exact bodyPost_ret (results_tmp2 rfl _ _ _) rfl ⟨⟨_, rfl⟩, m3⟩
 | some s =>
  rw [hk] at hlk
  simp only [Option.map_some, zE, Option.isSome_some] at hlk
  obtain ⟨ha, hb⟩ := H3 (k, s) (lkp_mem hk)
  have hn0 : s.a = none → s.c = 0 := by
   rcases ha with ⟨e, _⟩ | ⟨g, cur, e, _⟩
   ·injection e with _ _ e
    exact fun _ => e
   ·injection e with e _ _
    intro e2
    rw [e] at e2
    cases e2
  have HCP := Lib.hid (fun w1 (m : Mod (fun _ => False) w w1) => copied_c s.a s.l s.c w1 ((WAtG.of ha).sl.mod0 m) hn0 (Nat.le_trans hb (by decide)))
  obtain ⟨sa, hsa⟩ : ∃ sa, s.a = sa := ⟨_, rfl⟩
  obtain ⟨sn, hsn⟩ : ∃ sn, s.l.length = sn := ⟨_, rfl⟩
  obtain ⟨sc, hsc⟩ : ∃ sc, s.c = sc := ⟨_, rfl⟩
  have hlk2 : ∀ wq, Mod (fun _ => False) w wq → (Instr.lookup 46 (.map (some h)) (.agg (kc k)) true).run Tryz.prog wq = .ok (.tuple #[.slice sa sn sc, .bool true]) wq := fun wq hq => by
   have := hlk wq (hq.at0 kh)
   unfold slK at this
   rw [hsa, hsn, hsc] at this
   exact this
  have hC := HCP.out
  rw [hsa, hsn, hsc] at hC
  have HC := Lib.hid hC
  have HLK := Lib.hid hlk2
  clear hlk hlk2 H3 HM hk H ha hb hn0 hsa hsn hsc hC HCP
  go_enter Tryz.func34, Tryz.ntmps34
  go_upto_region 0 with fail
  have Lkr := lt_size kr
  refine wp_pass0 (C := fun _ _ _ => False) (κ := fun i => [3, 0, 0].getD i 0) [0, 1, 2] (by kernel_rfl) (by kernel_rfl) (fun _ _ d _ _ h => by cases d <;> first | exact h | exact absurd h (hP _ _ _)) ?_
  (refine TD.box (v := ?v21) (by simp only [zK]; rfl) rfl (by rfl) rfl rfl ?hx21 (fun p3 hp3 => ?n21); (case hx21 => simp only [Act.eval, zM]; try rfl); try simp only [Act.put, zL])
  iterate 2 (refine TD.val0 (v := ?_) (by simp only [zK]; rfl) rfl (by rfl) (fun w1 => ?_) ?_; rotate_left; (next => go_simp; try with_reducible rfl); try simp only [Act.put, zL])
  refine TD.nil (fun w1 hr => ?_)
  replace kr := hr.mod.at kr (fun h => h)
  have kp3 := hr.box p3 _ (by first | exact Bx.set_same _ _ _ | (simp only [Bx.set_same]; rfl)); dsimp only [Value.cells] at kp3; obtain ⟨gp3, kp3⟩ := kp3
  have m1 := hr.mod
  clear hr
  go_wp2_with fail
  go_at_call 82
  refine (there_c _ kr).mono ?_
  rintro e w2 ⟨rfl, rfl⟩
  have hlk3 : ∀ wq, Mod (fun _ => False) w2 wq → (Instr.lookup 46 (.map (some h)) (.agg (kc k)) true).run Tryz.prog wq = .ok (.tuple #[.slice sa sn sc, .bool true]) wq := fun wq hq => HLK.out wq (m1.trans hq)
  go_upto_region 3 with fail
  have Lkr := lt_size kr
  have Lkp3 := lt_size kp3
  refine wp_pass (C := fun _ _ _ => False) (κ := fun i => [0, 0, 0, 1, 1, 1, 0, 0, 0, 0, 0].getD i 0) [0, 1, 2, 3, 4, 5, 6, 7, 8, 9, 10] (by kernel_rfl) (by kernel_rfl) (fun _ _ d _ _ h => by cases d <;> first | exact h | exact absurd h (hP _ _ _)) ?_
  iterate 5 first | (refine TD.val0 (v := ?_) (by simp only [zK]; rfl) rfl (by rfl) (fun w1 => ?_) ?_; rotate_left; (next => go_simp; try with_reducible rfl); try simp only [Act.put, zL]) | (refine TD.load (v := ?_) (p := ?_) (Mod.refl _ _) (by simp only [zK]; rfl) rfl (by rfl) rfl ?_ (fun wq hSq => ?_) ?_; rotate_left 2; (next => simp only [Act.eval, zM]; try rfl); (next => have krq := hSq.at kr (fun h => h); have kp3q := hSq.at kp3 (fun h => h); go_simp; try with_reducible rfl); try simp only [Act.put, zL])
  (refine TD.lookup (v := ?v29) (p := ?p29) (q := ?q29) (Mod.refl _ _) (by simp only [zK]; rfl) rfl (by rfl) rfl ?hx29 ?hz29 (fun wq hSq => ?y29) ?n29; (case hx29 => simp only [Act.eval, zM]; try rfl); (case hz29 => simp only [Act.eval, zM]; try rfl); (case y29 => (rw [hlk3 wq hSq]; (try with_reducible rfl))); try simp only [Act.put, zL])
  iterate 5 (refine TD.val0 (v := ?_) (by simp only [zK]; rfl) rfl (by rfl) (fun w1 => ?_) ?_; rotate_left; (next => go_simp; try with_reducible rfl); try simp only [Act.put, zL])
  refine TD.nil (fun w3 hr => ?_)
  replace kr := hr.mod.at kr (fun h => h)
  replace kp3 := hr.mod.at kp3 (fun h => h)
  have m3 := m1.then0 hr.mod
  clear hr hlk3
  go_wp2_with fail
  go_at_call 83
  refine (HC.out _ m3).mono ?_
  rintro e w4 ⟨v, rfl, -, m4⟩
  have m5 := m3.trans m4
  go_wp2_with fail
  exact bodyPost_ret (results_tmp2 rfl _ _ _) rfl ⟨⟨_, rfl⟩, m5⟩
end Go.Proofs.YtiaehkkkcaeaiaaGreatDoor
namespace Go.Proofs.YtiaehkkkcaeaiaaGreatDoor
open Go.RowKit
open Go.ChangeMaps (setBlock)
attribute [local go_sem ↓] wlKey ldKey stKey ldSg stSg wlTc ldTc stTc eqKey1
attribute [local go_sem] cell_blk frozen_blk kc_ext one_int one_bool one_ptr one_slice one_map kc_one kc_one0 kc_size zKey_size sgc_size sgc_ext sgc_one0 sgc_one' txr_size txr_all txr_one txr_one' txr0 txr38 txr39 txr0' txr38' txr39' zTx_size Value.cells
def NewL {α : Type} (f : α → Array Value) (n : Nat) (E : TypeId) (b : Nat) (l : List α) (v : Value) : Land := fun T w => NewS f n E b w v l ∧ ∀ g, v.ownBlock = some g → T g
theorem goodN {α : Type} (f : α → Array Value) (n : Nat) (E : TypeId) (b : Nat) (l : List α) (v : Value) : Good (NewL f n E b l v) where
 cl := fun T w w' h hm => ⟨h.1.mod hm (fun g hg hn => hn (h.2 g hg)), h.2⟩
 gr := fun T T' w hT h => ⟨h.1, fun g hg => hT g (h.2 g hg)⟩
theorem newL {α : Type} {f : α → Array Value} {n : Nat} {E : TypeId} {b : Nat} {l : List α} {v : Value} {T : Nat → Prop} {w w' : World} (h : NewS f n E w.heap.size w' v l) (hb : b ≤ w.heap.size) : NewL f n E b l v (Grow T w w') w' :=
 ⟨h.base hb, fun g hg => .inr (h.lt g hg)⟩
theorem regH {w : World} {h r : Nat} {M : List (Key × Sl Key)} (H : RegM h r M w) : h ≠ r := by
 obtain ⟨k1, es, c, k2, _⟩ := H
 intro e
 subst e
 rw [k1] at k2
 cases k2
theorem nsK_ne {b : Nat} {w : World} {v : Value} {l : List Key} (h : NewS kc 32 82 b w v l) {j : Nat} {es : Array MapEntry} {c : Nat} (hj : w.heap[j]? = some (.map es c)) : v.ownBlock ≠ some j := fun e => by
 obtain ⟨C, hk⟩ := h.ty e
 rw [hj] at hk
 cases hk
def putE (T : TbL) (k : Key) (l : List Key) : Nat := if l.length = 0 ∨ 256 < l.length then 1 else if (tbFind T k).isSome then 12 else 0
set_option maxRecDepth 20000 in
set_option maxHeartbeats 3200000 in
theorem putT_c {b h r : Nat} {T : TbL} (k : Key) (a : Option Addr) (l : List Key) (c : Nat) (w : World) (H : RegA b h r T w) (hl : SlAt kc 32 w a l) (hn : a = none → c = 0) (hbl : l.length ≤ 1000000) :
  Calls Tryz.prog 43 #[pV r, .agg (kc k), .slice a l.length c] w fun e w' => e = .returned (.int .i64 ((putE T k l : Nat) : Int)) ∧ RegA b h r (tbPut T k l) w' ∧ Mod (fun i => i = h) w w' := by
 have HRA := Lib.hid H
 have hP1 : ∀ n, l.length = n → (n = 0 ∨ 256 < n) → putE T k l = 1 ∧ tbPut T k l = T := fun n e hn => by
  subst e
  exact ⟨if_pos hn, if_pos hn⟩
 have hP2 : ¬ (l.length = 0 ∨ 256 < l.length) → (tbFind T k).isSome = true → putE T k l = 12 ∧ tbPut T k l = T := fun e hf => by
  unfold putE tbPut
  rw [if_neg e, if_neg e, if_pos hf, if_pos hf]
  exact ⟨rfl, rfl⟩
 have hP3 : ¬ (l.length = 0 ∨ 256 < l.length) → tbFind T k = none → putE T k l = 0 ∧ tbPut T k l = T ++ [(k, l)] := fun e hf => by
  unfold putE tbPut
  rw [if_neg e, if_neg e, hf]
  exact ⟨rfl, rfl⟩
 have HP := Lib.hid (And.intro hP1 (And.intro hP2 hP3))
 obtain ⟨n, hnl⟩ : ∃ n, l.length = n := ⟨_, rfl⟩
 have HC := Lib.hid (fun w1 (m : Mod (fun _ => False) w w1) => copied_c a l c w1 (hl.mod0 m) hn hbl)
 have hC := HC.out
 rw [hnl] at hC
 have HC2 := Lib.hid hC
 have HNL := Lib.hid hnl
 have hnb : n ≤ 1000000 := by rw [← hnl]; exact hbl
 obtain ⟨M, ⟨kr, es, cl, kh, HM⟩, hT, H3, H4, H5⟩ := id H
 rw [hnl]
 obtain ⟨pe, hpe⟩ : ∃ pe, putE T k l = pe := ⟨_, rfl⟩
 obtain ⟨T2, hT2⟩ : ∃ T2, tbPut T k l = T2 := ⟨_, rfl⟩
 have HPE := Lib.hid (And.intro hpe hT2)
 rw [hpe, hT2]
 clear hP1 hP2 hP3 hC HC hl hn hbl hnl H hpe hT2
 go_enter Tryz.func43, Tryz.ntmps43
 go_upto_region 0 with fail
 have Lkr := lt_size kr
 have Lkh := lt_size kh
 refine wp_pass0 (C := fun _ _ _ => False) (κ := fun i => [3, 0].getD i 0) [0, 1] (by kernel_rfl) (by kernel_rfl) (fun _ _ d _ _ h => by cases d <;> first | exact h | exact absurd h (hP _ _ _)) ?_
 (refine TD.box (v := ?v1) (by simp only [zK]; rfl) rfl (by rfl) rfl rfl ?hx1 (fun p4 hp4 => ?n1); (case hx1 => simp only [Act.eval, zM]; try rfl); try simp only [Act.put, zL])
 (refine TD.val0 (v := ?_) (by simp only [zK]; rfl) rfl (by rfl) (fun w1 => ?_) ?_; rotate_left; (next => go_simp; try with_reducible rfl); try simp only [Act.put, zL])
 refine TD.nil (fun w1 hr => ?_)
 replace kr := hr.mod.at kr (fun h => h)
 replace kh := hr.mod.at kh (fun h => h)
 have kp4 := hr.box p4 _ (by first | exact Bx.set_same _ _ _ | (simp only [Bx.set_same]; rfl)); dsimp only [Value.cells] at kp4; obtain ⟨gp4, kp4⟩ := kp4
 have HM1 := Lib.hid hr.mod
 clear hr
 go_wp2_with fail
 go_at_call 82
 refine (there_c _ kr).mono ?_
 rintro e w2 ⟨rfl, rfl⟩
 have HFin : Hid (∀ wz, Mod (fun _ => False) w wz → T2 = T → RegA b h r T2 wz ∧ Mod (fun i => i = h) w wz) := Lib.hid (fun wz m e => ⟨e ▸ HRA.out.mod0 m, m.mono (fun _ _ h => h.elim)⟩)
 by_cases h0 : n = 0
 ·have HE := Lib.hid (HP.out.1 n HNL.out (.inl h0))
  have hd2 : decide ((n : Int) = 0) = true := decide_eq_true (by omega)
  go_wp2_with fail
  go_ret
  exact ⟨by rw [← HPE.out.1, HE.out.1]; rfl, HFin.out _ HM1.out (by rw [← HPE.out.2, HE.out.2])⟩
 ·have hd2 : decide ((n : Int) = 0) = false := decide_eq_false (by omega)
  by_cases h1 : 256 < n
  ·have HE := Lib.hid (HP.out.1 n HNL.out (.inr h1))
   have hd3 := decide_eq_true h1
   go_wp2_with fail
   go_ret
   exact ⟨by rw [← HPE.out.1, HE.out.1]; rfl, HFin.out _ HM1.out (by rw [← HPE.out.2, HE.out.2])⟩
  ·have hd3 := decide_eq_false h1
   have HNO : Hid (¬ (l.length = 0 ∨ 256 < l.length)) := Lib.hid (by rw [HNL.out]; omega)
   have hlk : ∀ wq, wq.heap[h]? = some (.map es cl) → (Instr.lookup 46 (.map (some h)) (.agg (kc k)) true).run Tryz.prog wq = .ok (.tuple #[((lkp k M).map slK).getD (slK ⟨none, [], 0⟩), .bool (lkp k M).isSome]) wq := fun wq hq => HM.lookup keyTR Tryz.underlying46 slK_zero wq hq k true
   have HM' := Lib.hid HM
   have H3' := Lib.hid H3
   clear HM H3
   cases hk : lkp k M with
   | some s =>
    have HE := Lib.hid (HP.out.2.1 HNO.out (by rw [← hT, lkp_tb, hk]; rfl))
    rw [hk] at hlk
    simp only [Option.map_some, zE, Option.isSome_some] at hlk
    obtain ⟨vs, hvs⟩ : ∃ vs, slK s = vs := ⟨_, rfl⟩
    rw [hvs] at hlk
    have hlk3 : ∀ wq, Mod (fun _ => False) w2 wq → (Instr.lookup 46 (.map (some h)) (.agg (kc k)) true).run Tryz.prog wq = .ok (.tuple #[vs, .bool true]) wq := fun wq hq => hlk wq (hq.at0 kh)
    clear hlk hk hvs
    go_upto_region 6 with fail
    have Lkr := lt_size kr
    have Lkp4 := lt_size kp4
    refine wp_pass (C := fun _ _ _ => False) (κ := fun i => [0, 0, 0, 1, 1, 1, 0, 0, 0, 0, 0].getD i 0) [0, 1, 2, 3, 4, 5, 6, 7, 8, 9, 10] (by kernel_rfl) (by kernel_rfl) (fun _ _ d _ _ h => by cases d <;> first | exact h | exact absurd h (hP _ _ _)) ?_
    iterate 5 first | (refine TD.val0 (v := ?_) (by simp only [zK]; rfl) rfl (by rfl) (fun w1 => ?_) ?_; rotate_left; (next => go_simp; try with_reducible rfl); try simp only [Act.put, zL]) | (refine TD.load (v := ?_) (p := ?_) (Mod.refl _ _) (by simp only [zK]; rfl) rfl (by rfl) rfl ?_ (fun wq hSq => ?_) ?_; rotate_left 2; (next => simp only [Act.eval, zM]; try rfl); (next => have krq := hSq.at kr (fun h => h); have kp4q := hSq.at kp4 (fun h => h); go_simp; try with_reducible rfl); try simp only [Act.put, zL])
    (refine TD.lookup (v := ?v8) (p := ?p8) (q := ?q8) (Mod.refl _ _) (by simp only [zK]; rfl) rfl (by rfl) rfl ?hx8 ?hz8 (fun wq hSq => ?y8) ?n8; (case hx8 => simp only [Act.eval, zM]; try rfl); (case hz8 => simp only [Act.eval, zM]; try rfl); (case y8 => (rw [hlk3 wq hSq]; (try with_reducible rfl))); try simp only [Act.put, zL])
    iterate 5 (refine TD.val0 (v := ?_) (by simp only [zK]; rfl) rfl (by rfl) (fun w1 => ?_) ?_; rotate_left; (next => go_simp; try with_reducible rfl); try simp only [Act.put, zL])
    refine TD.nil (fun w3 hr => ?_)
    replace kr := hr.mod.at kr (fun h => h)
    replace kp4 := hr.mod.at kp4 (fun h => h)
    have m3 := HM1.out.then0 hr.mod
    clear hr hlk3
    go_wp2_with fail
    go_ret
    exact ⟨by rw [← HPE.out.1, HE.out.1]; rfl, HFin.out _ m3 (by rw [← HPE.out.2, HE.out.2])⟩
   | none =>
    have HE := Lib.hid (HP.out.2.2 HNO.out (by rw [← hT, lkp_tb, hk]; rfl))
    rw [hk] at hlk
    simp only [Option.map_none, Option.getD_none, Option.isSome_none] at hlk
    have HK := Lib.hid hk
    have hlk3 : ∀ wq, Mod (fun _ => False) w2 wq → (Instr.lookup 46 (.map (some h)) (.agg (kc k)) true).run Tryz.prog wq = .ok (.tuple #[.slice none 0 0, .bool false]) wq := fun wq hq => hlk wq (hq.at0 kh)
    clear hlk hk
    go_upto_region 6 with fail
    have Lkr := lt_size kr
    have Lkp4 := lt_size kp4
    have Lkh := lt_size kh
    refine wp_pass (C := fun _ _ _ => False) (κ := fun i => [0, 0, 0, 1, 1, 1, 0, 0, 0, 0, 0].getD i 0) [0, 1, 2, 3, 4, 5, 6, 7, 8, 9, 10] (by kernel_rfl) (by kernel_rfl) (fun _ _ d _ _ h => by cases d <;> first | exact h | exact absurd h (hP _ _ _)) ?_
    iterate 5 first | (refine TD.val0 (v := ?_) (by simp only [zK]; rfl) rfl (by rfl) (fun w1 => ?_) ?_; rotate_left; (next => go_simp; try with_reducible rfl); try simp only [Act.put, zL]) | (refine TD.load (v := ?_) (p := ?_) (Mod.refl _ _) (by simp only [zK]; rfl) rfl (by rfl) rfl ?_ (fun wq hSq => ?_) ?_; rotate_left 2; (next => simp only [Act.eval, zM]; try rfl); (next => have krq := hSq.at kr (fun h => h); have kp4q := hSq.at kp4 (fun h => h); have khq := hSq.at kh (fun h => h); go_simp; try with_reducible rfl); try simp only [Act.put, zL])
    (refine TD.lookup (v := ?v19) (p := ?p19) (q := ?q19) (Mod.refl _ _) (by simp only [zK]; rfl) rfl (by rfl) rfl ?hx19 ?hz19 (fun wq hSq => ?y19) ?n19; (case hx19 => simp only [Act.eval, zM]; try rfl); (case hz19 => simp only [Act.eval, zM]; try rfl); (case y19 => (rw [hlk3 wq hSq]; (try with_reducible rfl))); try simp only [Act.put, zL])
    iterate 5 (refine TD.val0 (v := ?_) (by simp only [zK]; rfl) rfl (by rfl) (fun w1 => ?_) ?_; rotate_left; (next => go_simp; try with_reducible rfl); try simp only [Act.put, zL])
    refine TD.nil (fun w3 hr => ?_)
    replace kr := hr.mod.at kr (fun h => h)
    replace kp4 := hr.mod.at kp4 (fun h => h)
    replace kh := hr.mod.at kh (fun h => h)
    have HM3 := Lib.hid (HM1.out.then0 hr.mod)
    clear hr hlk3
    go_upto_region 9 with fail
    have Lkr := lt_size kr
    have Lkp4 := lt_size kp4
    have Lkh := lt_size kh
    refine wp_epass (T0 := fun _ => False) (K := fun _ _ => True) (κ := fun i => [0, 0, 0, 0, 0, 0, 6, 6].getD i 0) (υ := fun i => [[], [], [], [], [], [], [], []].getD i []) [0, 1, 2, 3, 4, 5, 6] [7] (by kernel_rfl) (by kernel_rfl) (Good.true).cl (trivial) (fun _ h => h.elim) ?_
    have gK := Good.true
    iterate 3 (refine TG.v0 (v := ?_) (by simp only [zK]; rfl) rfl (by rfl) (fun w1 => ?_) ?_; rotate_left; (next => go_simp; try with_reducible rfl); try simp only [Act.put, zL])
    (refine TG.load (v := ?v28) (p := ?p28) (by simp only [zK]; rfl) rfl (by rfl) rfl ?hx28 (fun wq hSq => ?y28) ?n28; (case hx28 => simp only [Act.eval, zM]; try rfl); (case y28 => (have krq := hSq.at kr (fun h => h); have kp4q := hSq.at kp4 (fun h => h); have khq := hSq.at kh (fun h => h); go_simp; (try with_reducible rfl))); try simp only [Act.put, zL])
    (refine TG.load (v := ?v29) (p := ?p29) (by simp only [zK]; rfl) rfl (by rfl) rfl ?hx29 (fun wq hSq => ?y29) ?n29; (case hx29 => simp only [Act.eval, zM]; try rfl); (case y29 => (have krq := hSq.at kr (fun h => h); have kp4q := hSq.at kp4 (fun h => h); have khq := hSq.at kh (fun h => h); go_simp; (try with_reducible rfl))); try simp only [Act.put, zL])
    (refine TG.v0 (v := ?_) (by simp only [zK]; rfl) rfl (by rfl) (fun w1 => ?_) ?_; rotate_left; (next => go_simp; try with_reducible rfl); try simp only [Act.put, zL])
    (refine TG.callM (f := ?f31) (args := ?r31) (NewL kc 32 82 w3.heap.size l) (goodN kc 32 82 w3.heap.size l) gK (by simp only [zK]; rfl) rfl (by rfl) (fun w1 => ?y31) (fun T wq kq ltq hSq ub => ?hsp31) ?n31; (case y31 => (go_simp; (first | with_reducible rfl | (constructor <;> with_reducible rfl)))); (case hsp31 => (have krq := hSq.at kr (fun h => h); have kp4q := hSq.at kp4 (fun h => h); have khq := hSq.at kh (fun h => h); exact (HC2.out wq (HM3.out.then0 hSq)).mono (fun e w' h => by obtain ⟨v, h1, h2, h3⟩ := h; exact ⟨v, h1, h3, newL h2 hSq.size⟩))); rintro v31 ⟨wI, TI, hI⟩; replace gK := gK.and ((goodN kc 32 82 w3.heap.size l) v31); skip; (try clear hI TI wI); try simp only [Act.put, zL])
    refine TG.nil (fun w6 ⟨TR, hr⟩ => ?_)
    replace kr := hr.mod.at kr (fun h => h)
    replace kp4 := hr.mod.at kp4 (fun h => h)
    replace kh := hr.mod.at kh (fun h => h)
    clear gK
    obtain ⟨_, hN, hTg⟩ := hr.k
    obtain ⟨a6, rfl⟩ := NewS.form2 hN
    rw [HNL.out] at hTg ⊢
    have HM6 := Lib.hid (HM3.out.then0 hr.mod)
    have HN6 := Lib.hid hN
    obtain ⟨es7, cl7, hup, HM7⟩ := HM'.out.update keyTR Tryz.underlying46 w6 kh k (⟨a6, l, n⟩ : Sl Key)
    have hup2 : (Instr.mapUpdate 46 (.map (some h)) (.agg (kc k)) (.slice a6 n n)).run Tryz.prog w6 = .ok () (setBlock w6 h (.map es7 cl7)) := by
     have e : slK (⟨a6, l, n⟩ : Sl Key) = .slice a6 n n := by
      unfold slK
      rw [HNL.out]
     rw [e] at hup
     exact hup
    have HM7' := Lib.hid HM7
    clear hup hN hTg hr HM7
    refine TE.step (by simp only [zK]; rfl) rfl ?_
    (refine eff_update (X := ?X32) (Y := ?Y32) (Z := ?Z32) (w' := ?w32) (by simp only [zK]; rfl) (by rfl) rfl ?hx32 ?hz32 ?hv32 ?y32 ?n32; (case hx32 => simp only [Act.eval, zM]; try rfl); (case hz32 => simp only [Act.eval, zM]; try rfl); (case hv32 => (simp only [Act.eval, zM]; (try rfl))); (case y32 => exact hup2))
    refine TE.nil_set kh (fun wn kh mS => ?_)
    have HM8 : Hid (Mod (fun i => i = h) w wn) := Lib.hid ((HM6.out.mono (fun _ _ h => h.elim)).trans mS)
    have HF : Hid (RegA b h r T2 wn) := Lib.hid (by
     obtain ⟨q1, q2⟩ := HPE.out
     rw [← q2, HE.out.2, ← hT]
     obtain ⟨M0, q0, _⟩ := HRA.out
     have hne := regH q0
     have hhb : h < w3.heap.size := by
      obtain ⟨_, e0, c0, k0, _⟩ := q0
      exact Nat.lt_of_lt_of_le (lt_size k0) HM3.out.size
     refine ⟨put k (⟨a6, l, n⟩ : Sl Key) M, ⟨mS.at_ne kr hne.symm, _, _, kh, HM7'.out⟩, ?_, ?_, H4, H5⟩
     ·rw [put_none HK.out]
      simp [tbOf]
     ·rw [put_none HK.out]
      intro x hx
      rcases List.mem_append.1 hx with hx | hx
      ·obtain ⟨x1, x2⟩ := H3'.out x hx
       obtain ⟨_, e0, c0, k0, _⟩ := q0
       refine ⟨x1.mod HM8.out (fun g hg e => ?_), x2⟩
       have e' : g = h := e
       subst e'
       exact nsK_ne x1 k0 hg
      ·rw [List.mem_singleton] at hx
       subst hx
       refine ⟨?_, by have := HNO.out; have := HNL.out; show l.length ≤ 256; omega⟩
       have hN := (HN6.out.mod mS (fun g hg e => by have e' : g = h := e; have := (HN6.out.lt g hg).1; omega)).base (b' := b) (by omega)
       show NewS kc 32 82 b wn (.slice a6 l.length n) l
       rw [← HNL.out]
       exact hN)
    clear kh kr mS
    go_wp2_with fail
    go_ret
    exact ⟨by rw [← HPE.out.1, HE.out.1]; rfl, HF.out, HM8.out⟩
end Go.Proofs.YtiaehkkkcaeaiaaGreatDoor
namespace Go.Proofs.YtiaehkkkcaeaiaaGreatDoor
open Go.RowKit
open Go.ChangeMaps (setBlock)
attribute [local go_sem ↓] wlKey ldKey stKey ldSg stSg wlTc ldTc stTc eqKey1
attribute [local go_sem] cell_blk frozen_blk kc_ext one_int one_bool one_ptr one_slice one_map kc_one kc_one0 kc_size zKey_size sgc_size sgc_ext sgc_one0 sgc_one' txr_size txr_all txr_one txr_one' txr0 txr38 txr39 txr0' txr38' txr39' zTx_size Value.cells
theorem bsKeyT (k : Key) (w : World) : (Instr.buildSlice 27 1 #[(0, .agg (kc k))]).run Tryz.prog w = .ok (.slice (some ⟨w.heap.size, 0, none⟩) 1 1) (w.alloc (.cells (kc k) 82)) := by
 obtain ⟨i0, hi, hz0, hz1, hz2⟩ := info_parts (show (Tryz.prog.info? 82).map (fun i => (i.zero, i.size, i.bytes)) = some (some (.agg zKey), 32, 32) by kernel_rfl)
 refine run_buildSlice w _ _ 1 _ _ i0 _ Tryz.underlying27 hi hz0 (by rw [hz1]; omega) (by rw [hz1]; omega) ?_
 rw [hz1]
 show Instr.fill _ _ [(0, _)] = _
 rw [fill_cons (off := 0) (n := 32) rfl (by simp [Value.cells]) (by simp [Value.cells, zKey_size, size_madeCells])]
 show some (wr _ 0 (kc k).toList) = _
 rw [wr_whole (kc k) _ (by simp [Value.cells, zKey_size, size_madeCells])]
def preK (P : List Key) (r : Option (List Key)) : Option (List Key) := r.map (P ++ ·)
theorem preK_nil (r : Option (List Key)) : preK [] r = r := by cases r <;> rfl
theorem preK_step {P L : List Key} {A : List UInt8} {i : Nat} {c : UInt8} {k : Key} (h : A[i]? = some c) (hk : L[c.toNat]? = some k) : preK P (pickP L (A.drop i)) = preK (P ++ [k]) (pickP L (A.drop (i + 1))) := by
 obtain ⟨hi, e⟩ := List.getElem?_eq_some_iff.1 h
 rw [List.drop_eq_getElem_cons hi, e, pickP, hk]
 simp only
 unfold preK
 cases pickP L (A.drop (i + 1)) <;> simp
theorem preK_none {P L : List Key} {A : List UInt8} {i : Nat} {c : UInt8} (h : A[i]? = some c) (hk : L.length ≤ c.toNat) : preK P (pickP L (A.drop i)) = none := by
 obtain ⟨hi, e⟩ := List.getElem?_eq_some_iff.1 h
 rw [List.drop_eq_getElem_cons hi, e, pickP, List.getElem?_eq_none hk]
 rfl
def PickA (base : Nat) (v : Value) (O : List Key) (r : Option (List Key)) (w : World) (e : Ending) (w' : World) : Prop := Mod (fun i => v.ownBlock = some i) w w' ∧ match r with
 | some P => ∃ v', e = .returned (.tuple #[v', .bool true]) ∧ SlOwn kc 32 82 w' base v' (O ++ P) ∧ ∀ i, v'.ownBlock = some i → v.ownBlock = some i ∨ w.heap.size ≤ i
 | none => e = .returned (.tuple #[.slice none 0 0, .bool false])
set_option maxRecDepth 20000 in
set_option maxHeartbeats 6400000 in
theorem picked_c {base : Nat} {v : Value} {O L : List Key} {A : List UInt8} {la aa : Option Addr} {lc ac : Nat} (w : World) (hO : SlOwn kc 32 82 w base v O) (hbase : base ≤ w.heap.size) (hL : SlAt kc 32 w la L) (hA : SlAt uc 1 w aa A)
  (hLb : ∀ g o, la = some ⟨g, o, none⟩ → g < base) (hAb : ∀ g o, aa = some ⟨g, o, none⟩ → g < base) (h1 : L.length ≤ 256) (h2 : A.length ≤ 65535) (h3 : O.length ≤ 900000) :
  Calls Tryz.prog 86 #[v, .slice la L.length lc, .slice aa A.length ac] w (PickA base v O (pickP L A) w) := by
 obtain ⟨nL, hnL⟩ : ∃ n, L.length = n := ⟨_, rfl⟩
 obtain ⟨nA, hnA⟩ : ∃ n, A.length = n := ⟨_, rfl⟩
 have HN := Lib.hid (And.intro hnL (And.intro hnA h3))
 have HL := Lib.hid (And.intro hL (And.intro hA (And.intro hLb hAb)))
 have HO := Lib.hid hO
 have HBS := Lib.hid hbase
 rw [hnL] at h1
 rw [hnA] at h2
 rw [hnL, hnA]
 have HP0 : Hid (pickP L A = preK [] (pickP L (A.drop 0))) := Lib.hid (by rw [preK_nil, List.drop_zero])
 have hlo0 := hO.lt
 have HLO := Lib.hid hlo0
 clear hO hL hA hLb hAb hnL hnA h3 hbase hlo0
 go_enter Tryz.func86, Tryz.ntmps86
 go_wp2_with fail
 go_loopw [0, 12] (fun s0 s12 ws => ∃ (i : Nat) (P : List Key), i ≤ nA ∧ s12 = .int .i64 (i : Int) ∧ Hid (SlOwn kc 32 82 ws base s0 (O ++ P) ∧ P.length = i) ∧ Hid (pickP L A = preK P (pickP L (A.drop i))) ∧ Hid (Mod (fun j => v.ownBlock = some j) w ws) ∧ Hid (∀ j, s0.ownBlock = some j → v.ownBlock = some j ∨ w.heap.size ≤ j)) (fun _ s12 _ => nA - (intOf s12).toNat)
 case atStart => exact ⟨0, [], Nat.zero_le _, rfl, Lib.hid ⟨by rw [List.append_nil]; exact HO.out, rfl⟩, HP0, Lib.hid (Mod.refl _ _), Lib.hid (fun j h => .inl h)⟩
 case round =>
  obtain ⟨i, P, hi, rfl, HOi, HP, HM, HX⟩ := hrel
  by_cases hlt : i < nA
  ·have hd := decide_eq_true hlt
   obtain ⟨c, hc⟩ : ∃ c, A[i]? = some c := ⟨_, List.getElem?_eq_getElem (by have := HN.out; omega)⟩
   obtain ⟨g, o, C, U, fr, rfl, kg, he, hle⟩ := (HL.out.2.1.mod HM.out (fun b o e hs => by have h1 := HL.out.2.2.2 b o e; have h2 := (HLO.out b hs).1; omega)).block hc
   have c0 := cellC he (j := 0) (v := u8v c) rfl
   simp only [Nat.mul_one, Nat.add_zero] at c0
   have HCC := Lib.hid hc
   obtain ⟨k, hk⟩ : ∃ k, c.toNat = k := ⟨_, rfl⟩
   have hkb : k < 256 := by rw [← hk]; exact c.toNat_lt
   have hw : IntKind.i64.wrap (k : Int) = (k : Int) := by rw [IntKind.wrap_i64]; omega
   replace c0 : C[o + i]? = some (.int .u8 (k : Int)) := by rw [← hk]; exact c0
   have HK := Lib.hid hk
   clear he hle hc hk
   by_cases hge : nL ≤ k
   ·have hd2 := decide_eq_true hge
    have HE : Hid (pickP L A = none) := Lib.hid (by rw [HP.out, preK_none HCC.out (by rw [HK.out, HN.out.1]; exact hge)])
    go_wp2_with fail
    refine bodyPost_ret (results_tmp2 rfl _ _ _) rfl ?_
    unfold PickA
    rw [HE.out]
    exact ⟨HM.out, rfl⟩
   ·have hd2 := decide_eq_false hge
    have hkl : k < nL := by omega
    obtain ⟨y, hy⟩ : ∃ y, L[k]? = some y := ⟨_, List.getElem?_eq_getElem (by have := HN.out; omega)⟩
    obtain ⟨g', o', C', U', fr', rfl, kl, he, hle⟩ := (HL.out.1.mod HM.out (fun b o e hs => by have h1 := HL.out.2.2.1 b o e; have h2 := (HLO.out b hs).1; omega)).block hy
    have HP2 : Hid (pickP L A = preK (P ++ [y]) (pickP L (A.drop (i + 1)))) := Lib.hid (by rw [HP.out, preK_step HCC.out (by rw [HK.out]; exact hy)])
    clear hy
    have hbs := bsKeyT y
    obtain ⟨a2, c2, rfl, _⟩ := HOi.out.1.at keysT
    generalize hll : (O ++ P).length = ll at *
    have HLL : Hid (ll = O.length + i) := Lib.hid (by rw [← hll, List.length_append, HOi.out.2])
    clear hll
    go_upto_region 6 with fail
    have Lkl := lt_size kl
    refine wp_pass0 (C := fun _ _ _ => False) (κ := fun i => [0, 0, 0, 0, 1, 3, 5, 0].getD i 0) [0, 1, 2, 3, 4, 5, 6, 7] (by kernel_rfl) (by kernel_rfl) (fun _ _ d _ _ h => by cases d <;> first | exact h | exact absurd h (hP _ _ _)) ?_
    iterate 5 first | (refine TD.val0 (v := ?_) (by simp only [zK]; rfl) rfl (by rfl) (fun w1 => ?_) ?_; rotate_left; (next => go_simp; try with_reducible rfl); try simp only [Act.put, zL]) | (refine TD.load (v := ?_) (p := ?_) (Mod.refl _ _) (by simp only [zK]; rfl) rfl (by rfl) rfl ?_ (fun wq hSq => ?_) ?_; rotate_left 2; (next => simp only [Act.eval, zM]; try rfl); (next => have klq := hSq.at kl (fun h => h); go_simp; try with_reducible rfl); try simp only [Act.put, zL])
    (refine TD.bslice (by simp only [zK]; rfl) rfl (by rfl) rfl rfl ?hx6 hbs (fun p26 hp26 => ?n6); (case hx6 => (simp only [List.map_toArray, List.map_cons, List.map_nil, Act.eval, zM]; (try rfl))); try simp only [Act.put, zL])
    refine TD.eff (by simp only [zK]; rfl) rfl (fun w3 hr => ?_)
    replace kl := hr.mod.at kl (fun h => h)
    have kp26 := hr.box p26 _ (by first | exact Bx.set_same _ _ _ | (simp only [Bx.set_same]; rfl)); dsimp only [Value.cells] at kp26; obtain ⟨gp26, kp26⟩ := kp26
    have HM3 := Lib.hid (HM.out.then0 hr.mod)
    have HO3 := Lib.hid (HOi.out.1.mod0 hr.mod)
    have HSZ := Lib.hid hr.mod.size
    have hsz := hr.mod.size
    clear hr hbs he hle kl kg
    obtain ⟨v5, w5, hap, hO5, m5, hn5⟩ := SlOwn.append keysT (q := [y]) (c := 1) HO3.out (SlAt.one kp26 y rfl (kc_size _)) (by have := HN.out; have := HLL.out; have := HOi.out.2; simp only [List.length_append, List.length_singleton]; omega) (by decide) (Nat.le_trans HBS.out HM3.out.size) 27
    have HO5 : Hid (SlOwn kc 32 82 w5 base v5 (O ++ (P ++ [y])) ∧ (P ++ [y]).length = i + 1) := Lib.hid ⟨by rw [← List.append_assoc]; exact hO5, by rw [List.length_append, HOi.out.2]; rfl⟩
    have HM5 : Hid (Mod (fun j => v.ownBlock = some j) w w5) := Lib.hid (HM3.out.then m5 (fun j hj e => by
     rcases HX.out j e with h | h
     ·exact h
     ·omega))
    have HX5 : Hid (∀ j, v5.ownBlock = some j → v.ownBlock = some j ∨ w.heap.size ≤ j) := Lib.hid (fun j hj => by
     rcases hn5 with h | h
     ·exact HX.out j (h.symm.trans hj)
     ·rw [h] at hj
      cases hj
      exact .inr HM3.out.size)
    clear hO5 m5 hn5 kp26
    (refine eff_append (by simp only [zK]; rfl) (by rfl) rfl ?hx8 ?hz8 hap ?n8; (case hx8 => simp only [Act.eval, zM]; try rfl); (case hz8 => simp only [Act.eval, zM]; try rfl); try simp only [Act.put, zL])
    (refine TE.val0 (v := ?v9) (by simp only [zK]; rfl) (by rfl) (fun w1 => ?y9) ?n9; (case y9 => go_simp; try with_reducible rfl); try simp only [Act.put, zL])
    refine TE.nil ?_
    go_wp2_with fail
    go_roundw
    case rel => exact ⟨i + 1, P ++ [y], by omega, by go_num, HO5, HP2, HM5, HX5⟩
    case measure => simp [intOf]; omega
  ·have hd := decide_eq_false hlt
   have HE : Hid (pickP L A = some P) := Lib.hid (by
    rw [HP.out, List.drop_of_length_le (by have := HN.out; omega)]
    simp [preK, pickP])
   obtain ⟨s, hs⟩ : ∃ s : Value, s = s := ⟨.nilIface, rfl⟩
   go_wp2_with fail
   refine bodyPost_ret (results_tmp2 rfl _ _ _) rfl ?_
   unfold PickA
   rw [HE.out]
   exact ⟨HM.out, _, rfl, HOi.out.1, HX.out⟩
end Go.Proofs.YtiaehkkkcaeaiaaGreatDoor
namespace Go.Proofs.YtiaehkkkcaeaiaaGreatDoor
open Go.RowKit
open Go.ChangeMaps (setBlock)
attribute [local go_sem ↓] wlKey ldKey stKey ldSg stSg wlTc ldTc stTc eqKey1
attribute [local go_sem] cell_blk frozen_blk kc_ext one_int one_bool one_ptr one_slice one_map kc_one kc_one0 kc_size zKey_size sgc_size sgc_ext sgc_one0 sgc_one' txr_size txr_all txr_one txr_one' txr0 txr38 txr39 txr0' txr38' txr39' zTx_size Value.cells
attribute [local go_sem ↓] wlLo ldLo stLo
attribute [local go_sem] lor32 lor33 lor32' lor33' zLo_size lor_size lor_one
theorem lor_key (y : LoR) : (lor y).extract 0 32 = kc y.t := kx_key _ _
attribute [local go_sem] lor_key
def LoF (w : World) (y : LoR) : Prop := (SlAt uc 1 w y.w.a y.w.l ∧ (∀ g o, y.w.a = some ⟨g, o, none⟩ → g < w.heap.size) ∧ y.w.l.length ≤ 65535) ∧ (SlAt uc 1 w y.r.a y.r.l ∧ (∀ g o, y.r.a = some ⟨g, o, none⟩ → g < w.heap.size) ∧ y.r.l.length ≤ 65535)
theorem res_none {T : TbL} {X : List LoR} {i : Nat} {y : LoR} {O : List Key × List Key} (h : X[i]? = some y) (hf : tbFind T y.t = none) : resP T ((X.drop i).map loP) O = .error 11 := by
 obtain ⟨hi, e⟩ := List.getElem?_eq_some_iff.1 h
 rw [List.drop_eq_getElem_cons hi, e, List.map_cons, resP]
 show (match tbFind T y.t with | none => _ | some l => _) = _
 rw [hf]
theorem res_bad {T : TbL} {X : List LoR} {i : Nat} {y : LoR} {O : List Key × List Key} {l : List Key} (h : X[i]? = some y) (hf : tbFind T y.t = some l) (hb : pickP l y.w.l = none ∨ pickP l y.r.l = none) : resP T ((X.drop i).map loP) O = .error 8 := by
 obtain ⟨hi, e⟩ := List.getElem?_eq_some_iff.1 h
 rw [List.drop_eq_getElem_cons hi, e, List.map_cons, resP]
 show (match tbFind T y.t with | none => _ | some l => match pickP l y.w.l, pickP l y.r.l with | some a, some b => _ | _, _ => _) = _
 rw [hf]
 simp only
 rcases hb with hb | hb
 ·rw [hb]
 ·rw [hb]
  cases pickP l y.w.l <;> rfl
theorem res_step {T : TbL} {X : List LoR} {i : Nat} {y : LoR} {O : List Key × List Key} {l a b : List Key} (h : X[i]? = some y) (hf : tbFind T y.t = some l) (ha : pickP l y.w.l = some a) (hb : pickP l y.r.l = some b) : resP T ((X.drop i).map loP) O = resP T ((X.drop (i + 1)).map loP) (O.1 ++ a, O.2 ++ b) := by
 obtain ⟨hi, e⟩ := List.getElem?_eq_some_iff.1 h
 rw [List.drop_eq_getElem_cons hi, e, List.map_cons, resP]
 show (match tbFind T y.t with | none => _ | some l => match pickP l y.w.l, pickP l y.r.l with | some a, some b => _ | _, _ => _) = _
 rw [hf]
 simp only
 rw [ha, hb]
theorem pick_len {l : List Key} : ∀ {A : List UInt8} {P : List Key}, pickP l A = some P → P.length = A.length
 | [], P, h => by
  rw [pickP] at h
  cases h
  rfl
 | c :: A, P, h => by
  rw [pickP] at h
  split at h
  ·cases h
  ·cases hp : pickP l A with
   | none => rw [hp] at h; cases h
   | some Q =>
    rw [hp] at h
    cases h
    simp [pick_len hp]
def ResA (T : TbL) (X : List LoR) (w : World) (e : Ending) (w' : World) : Prop := Mod (fun _ => False) w w' ∧ match resP T (X.map loP) ([], []) with
 | .ok y => ∃ va vb, e = .returned (.tuple #[va, vb, .int .i64 0]) ∧ NewS kc 32 82 w.heap.size w' va y.1 ∧ NewS kc 32 82 w.heap.size w' vb y.2
 | .error n => e = .returned (.tuple #[.slice none 0 0, .slice none 0 0, .int .i64 (n : Int)])
set_option maxRecDepth 20000 in
set_option maxHeartbeats 6400000 in
theorem resolve_c {b h r : Nat} {T : TbL} {X : List LoR} {xa : Option Addr} {xc : Nat} (w : World) (H : RegA b h r T w) (hX : SlAt lor 34 w xa X) (hXl : ∀ y ∈ X, LoF w y) (hn : X.length ≤ 1000000) (hs : loSum X ≤ 800000) :
  Calls Tryz.prog 37 #[pV r, .slice xa X.length xc] w (ResA T X w) := by
 obtain ⟨n, hnX⟩ : ∃ n, X.length = n := ⟨_, rfl⟩
 have HX := Lib.hid (And.intro hX (And.intro hXl (And.intro hnX hs)))
 have HRG := Lib.hid H
 obtain ⟨M, ⟨kr, es, cl, kh, HM0⟩, hT, H3, H4, H5⟩ := id H
 have hlk : ∀ (k : Key) wq, wq.heap[h]? = some (.map es cl) → (Instr.lookup 46 (.map (some h)) (.agg (kc k)) true).run Tryz.prog wq = .ok (.tuple #[((lkp k M).map slK).getD (slK ⟨none, [], 0⟩), .bool (lkp k M).isSome]) wq := fun k wq hq => HM0.lookup keyTR Tryz.underlying46 slK_zero wq hq k true
 have HLK := Lib.hid hlk
 have H3' := Lib.hid H3
 have HTT := Lib.hid hT
 rw [hnX] at hn ⊢
 clear hX hXl hnX hs H HM0 hlk H3 hT H4 H5
 go_enter Tryz.func37, Tryz.ntmps37
 go_wp2_with fail
 go_at_call 82
 refine (there_c _ kr).mono ?_
 rintro e w1 ⟨rfl, rfl⟩
 have HP0 : Hid (resP T (X.map loP) ([], []) = resP T ((X.drop 0).map loP) ([], [])) := Lib.hid (by rw [List.drop_zero])
 have HKR := Lib.hid kr
 have HKH := Lib.hid kh
 clear kr kh
 go_wp2_with fail
 go_loopw [4, 5, 18] (fun s4 s5 s18 ws => ∃ (i : Nat) (Wl Rl : List Key), i ≤ n ∧ s18 = .int .i64 (i : Int) ∧ Hid (SlOwn kc 32 82 ws w1.heap.size s4 Wl ∧ SlOwn kc 32 82 ws w1.heap.size s5 Rl ∧ Wl.length + Rl.length = loSum (X.take i) ∧ ∀ j, s4.ownBlock = some j → s5.ownBlock ≠ some j) ∧ Hid (resP T (X.map loP) ([], []) = resP T ((X.drop i).map loP) (Wl, Rl)) ∧ Hid (Mod (fun _ => False) w1 ws)) (fun _ _ s18 _ => n - (intOf s18).toNat)
 case atStart => exact ⟨0, [], [], Nat.zero_le _, rfl, Lib.hid ⟨SlOwn.nil _ _, SlOwn.nil _ _, by simp [loSum], fun j h => by cases h⟩, HP0, Lib.hid (Mod.refl _ _)⟩
 case round =>
  obtain ⟨i, Wl, Rl, hi, rfl, HO, HP, HM⟩ := hrel
  by_cases hlt : i < n
  ·have hd := decide_eq_true hlt
   obtain ⟨y, hy⟩ : ∃ y, X[i]? = some y := ⟨_, List.getElem?_eq_getElem (by have := HX.out.2.2.1; omega)⟩
   obtain ⟨g, o, C, U, fr, rfl, kg, he, hle⟩ := (HX.out.1.mod0 HM.out).block hy
   have HY := Lib.hid hy
   have kr := HM.out.at0 HKR.out
   have kh := HM.out.at0 HKH.out
   clear hy
   go_upto_region 5 with fail
   have Lkg := lt_size kg
   have Lkr := lt_size kr
   have Lkh := lt_size kh
   refine wp_pass0 (C := fun _ _ _ => False) (κ := fun i => [0, 1, 3, 4].getD i 0) [0, 1, 2, 3] (by kernel_rfl) (by kernel_rfl) (fun _ _ d _ _ h => by cases d <;> first | exact h | exact absurd h (hP _ _ _)) ?_
   (refine TD.val0 (v := ?_) (by simp only [zK]; rfl) rfl (by rfl) (fun w1 => ?_) ?_; rotate_left; (next => go_simp; try with_reducible rfl); try simp only [Act.put, zL])
   (refine TD.load (v := ?_) (p := ?_) (Mod.refl _ _) (by simp only [zK]; rfl) rfl (by rfl) rfl ?_ (fun wq hSq => ?_) ?_; rotate_left 2; (next => simp only [Act.eval, zM]; try rfl); (next => have kgq := hSq.at kg (fun h => h); have krq := hSq.at kr (fun h => h); have khq := hSq.at kh (fun h => h); go_simp; try with_reducible rfl); try simp only [Act.put, zL])
   (refine TD.allocB (by simp only [zK]; rfl) rfl (by rfl) rfl rfl alLo (fun p8 hp8 => ?n3); try simp only [Act.put, zL])
   (refine TD.storeB (d := ?d4) (T := ?T4) (y := ?y4) (p := ?p4) (b := ?b4) (v := ?v4) (by simp only [zK]; rfl) rfl (by rfl) ?hd4 ?hop4 ?hev4 ?hx4 ?hb4 ?htag4 (fun w1 hb1 => ?hy4) ?hn4; (case hd4 => rfl); (case hop4 => rfl); (case hev4 => (simp only [Act.eval, zM]; (try rfl))); (case hx4 => simp only [Act.eval, zM]; try rfl); (case hb4 => first | exact Bx.set_same _ _ _ | (simp only [Bx.set_same]; rfl)); (case hy4 => (go_simp; (try first | with_reducible rfl | (rw [setCell_blk hb1]; rfl)))); try simp only [Act.put, zL])
   refine TD.nil (fun w3 hr => ?_)
   replace kg := hr.mod.at kg (fun h => h)
   replace kr := hr.mod.at kr (fun h => h)
   replace kh := hr.mod.at kh (fun h => h)
   have kp8 := hr.box p8 _ (by first | exact Bx.set_same _ _ _ | (simp only [Bx.set_same]; rfl)); dsimp only [Value.cells] at kp8; obtain ⟨gp8, kp8⟩ := kp8
   have HM3 := Lib.hid (HM.out.then0 hr.mod)
   have HO3 := Lib.hid (And.intro (HO.out.1.mod0 hr.mod) (HO.out.2.1.mod0 hr.mod))
   clear hr he hle kg
   cases hk : lkp y.t M with
   | none =>
    have hlk3 : ∀ wq, Mod (fun _ => False) w3 wq → (Instr.lookup 46 (.map (some h)) (.agg (kc y.t)) true).run Tryz.prog wq = .ok (.tuple #[.slice none 0 0, .bool false]) wq := fun wq hq => by
     have := HLK.out y.t wq (hq.at0 kh)
     rw [hk] at this
     exact this
    have HE : Hid (resP T (X.map loP) ([], []) = .error 11) := Lib.hid (by rw [HP.out]; exact res_none HY.out (by rw [← HTT.out, lkp_tb, hk]; rfl))
    clear hk
    go_upto_region 6 with fail
    have Lkr := lt_size kr
    have Lkp8 := lt_size kp8
    refine wp_pass (C := fun _ _ _ => False) (κ := fun i => [0, 0, 0, 1, 0, 1, 1, 0, 0, 0, 0, 0].getD i 0) [0, 1, 2, 3, 4, 5, 6, 7, 8, 9, 10, 11] (by kernel_rfl) (by kernel_rfl) (fun _ _ d _ _ h => by cases d <;> first | exact h | exact absurd h (hP _ _ _)) ?_
    iterate 6 first | (refine TD.val0 (v := ?_) (by simp only [zK]; rfl) rfl (by rfl) (fun w1 => ?_) ?_; rotate_left; (next => go_simp; try with_reducible rfl); try simp only [Act.put, zL]) | (refine TD.load (v := ?_) (p := ?_) (Mod.refl _ _) (by simp only [zK]; rfl) rfl (by rfl) rfl ?_ (fun wq hSq => ?_) ?_; rotate_left 2; (next => simp only [Act.eval, zM]; try rfl); (next => have krq := hSq.at kr (fun h => h); have kp8q := hSq.at kp8 (fun h => h); go_simp; try with_reducible rfl); try simp only [Act.put, zL])
    (refine TD.lookup (v := ?v11) (p := ?p11) (q := ?q11) (Mod.refl _ _) (by simp only [zK]; rfl) rfl (by rfl) rfl ?hx11 ?hz11 (fun wq hSq => ?y11) ?n11; (case hx11 => simp only [Act.eval, zM]; try rfl); (case hz11 => simp only [Act.eval, zM]; try rfl); (case y11 => (rw [hlk3 wq hSq]; (try with_reducible rfl))); try simp only [Act.put, zL])
    iterate 5 (refine TD.val0 (v := ?_) (by simp only [zK]; rfl) rfl (by rfl) (fun w1 => ?_) ?_; rotate_left; (next => go_simp; try with_reducible rfl); try simp only [Act.put, zL])
    refine TD.nil (fun w4 hr => ?_)
    replace kr := hr.mod.at kr (fun h => h)
    replace kp8 := hr.mod.at kp8 (fun h => h)
    have HM4 := Lib.hid (HM3.out.then0 hr.mod)
    clear hr hlk3
    go_wp2_with fail
    refine bodyPost_ret (results_tmp3 rfl _ _ _) rfl ?_
    unfold ResA
    rw [HE.out]
    exact ⟨HM4.out, rfl⟩
   | some s =>
    obtain ⟨a4, c4, rfl, _⟩ := HO.out.1.at keysT
    obtain ⟨a5, c5, rfl, _⟩ := HO.out.2.1.at keysT
    obtain ⟨hsa, hsb⟩ := H3'.out (y.t, s) (lkp_mem hk)
    have hft : tbFind T y.t = some s.l := by rw [← HTT.out, lkp_tb, hk]; rfl
    have HFT := Lib.hid hft
    have HSA : Hid (SlAt kc 32 w1 s.a s.l ∧ (∀ g o, s.a = some ⟨g, o, none⟩ → g < w1.heap.size) ∧ s.l.length ≤ 256) := Lib.hid ⟨(WAtG.of (show NewS kc 32 82 b w1 (.slice s.a s.l.length s.c) s.l from hsa)).sl, fun g o e => (hsa.lt g (by show (Value.slice s.a s.l.length s.c).ownBlock = some g; rw [e]; rfl)).2, hsb⟩
    have HYF := Lib.hid (HX.out.2.1 y (List.mem_of_getElem? HY.out))
    have hlk3 : ∀ wq, Mod (fun _ => False) w3 wq → (Instr.lookup 46 (.map (some h)) (.agg (kc y.t)) true).run Tryz.prog wq = .ok (.tuple #[.slice s.a s.l.length s.c, .bool true]) wq := fun wq hq => by
     have := HLK.out y.t wq (hq.at0 kh)
     rw [hk] at this
     exact this
    have HLE : Hid (Wl.length ≤ 900000 ∧ Rl.length ≤ 900000) := Lib.hid (by
     have h1 := HO.out.2.2.1
     have h2 : loSum (X.take i) ≤ loSum X := by
      conv => rhs; rw [← List.take_append_drop i X]
      unfold loSum
      rw [List.map_append, List.sum_append]
      omega
     have h3 := HX.out.2.2.2
     omega)
    have HP8 : Hid (∀ j, ((Value.slice a4 Wl.length c4).ownBlock = some j ∨ (Value.slice a5 Rl.length c5).ownBlock = some j) → j ≠ p8) := Lib.hid (fun j hj e => by
     rcases hj with hj | hj
     ·have := (HO.out.1.lt j hj).2
      omega
     ·have := (HO.out.2.1.lt j hj).2
      omega)
    clear hsa hsb hft hk
    go_upto_region 6 with fail
    have Lkr := lt_size kr
    have Lkp8 := lt_size kp8
    have Lkh := lt_size kh
    refine wp_pass (C := fun _ _ _ => False) (κ := fun i => [0, 0, 0, 1, 0, 1, 1, 0, 0, 0, 0, 0].getD i 0) [0, 1, 2, 3, 4, 5, 6, 7, 8, 9, 10, 11] (by kernel_rfl) (by kernel_rfl) (fun _ _ d _ _ h => by cases d <;> first | exact h | exact absurd h (hP _ _ _)) ?_
    iterate 6 first | (refine TD.val0 (v := ?_) (by simp only [zK]; rfl) rfl (by rfl) (fun w1 => ?_) ?_; rotate_left; (next => go_simp; try with_reducible rfl); try simp only [Act.put, zL]) | (refine TD.load (v := ?_) (p := ?_) (Mod.refl _ _) (by simp only [zK]; rfl) rfl (by rfl) rfl ?_ (fun wq hSq => ?_) ?_; rotate_left 2; (next => simp only [Act.eval, zM]; try rfl); (next => have krq := hSq.at kr (fun h => h); have kp8q := hSq.at kp8 (fun h => h); have khq := hSq.at kh (fun h => h); go_simp; try with_reducible rfl); try simp only [Act.put, zL])
    (refine TD.lookup (v := ?v23) (p := ?p23) (q := ?q23) (Mod.refl _ _) (by simp only [zK]; rfl) rfl (by rfl) rfl ?hx23 ?hz23 (fun wq hSq => ?y23) ?n23; (case hx23 => simp only [Act.eval, zM]; try rfl); (case hz23 => simp only [Act.eval, zM]; try rfl); (case y23 => (rw [hlk3 wq hSq]; (try with_reducible rfl))); try simp only [Act.put, zL])
    iterate 5 (refine TD.val0 (v := ?_) (by simp only [zK]; rfl) rfl (by rfl) (fun w1 => ?_) ?_; rotate_left; (next => go_simp; try with_reducible rfl); try simp only [Act.put, zL])
    refine TD.nil (fun w4 hr => ?_)
    replace kr := hr.mod.at kr (fun h => h)
    replace kp8 := hr.mod.at kp8 (fun h => h)
    replace kh := hr.mod.at kh (fun h => h)
    have HM4 := Lib.hid (HM3.out.then0 hr.mod)
    have HO4 := Lib.hid (And.intro (HO3.out.1.mod0 hr.mod) (HO3.out.2.mod0 hr.mod))
    have HW4 : Hid (wr.heap.size ≤ w4.heap.size) := Lib.hid (by have h1 := hr.mod.size; have h2 := lt_size kp8; omega)
    clear hr hlk3
    have hP1 := picked_c (base := w1.heap.size) (lc := s.c) (ac := y.w.c) w4 HO4.out.1 HM4.out.size (HSA.out.1.mod0 HM4.out) (HYF.out.1.1.mod0 HM4.out) HSA.out.2.1 HYF.out.1.2.1 HSA.out.2.2 HYF.out.1.2.2 HLE.out.1
    have HP1 := Lib.hid hP1
    clear hP1
    go_wp2_with fail
    go_at_call 86
    refine HP1.out.mono ?_
    rintro e w5 ⟨m5, hP⟩
    have HM5 : Hid (Mod (fun _ => False) w1 w5) := Lib.hid (HM4.out.then m5 (fun j hj e => by have := (HO.out.1.lt j e).1; omega))
    have HO5 : Hid (SlOwn kc 32 82 w5 w1.heap.size (.slice a5 Rl.length c5) Rl) := Lib.hid (HO4.out.2.mod m5 (fun j hj e => HO.out.2.2.2 j e hj))
    have HW5 : Hid (w4.heap.size ≤ w5.heap.size) := Lib.hid m5.size
    replace kp8 := m5.at kp8 (fun e => HP8.out p8 (.inl e) rfl)
    have HP2 := Lib.hid (picked_c (base := w1.heap.size) (lc := s.c) (ac := y.r.c) w5 HO5.out HM5.out.size (HSA.out.1.mod0 HM5.out) (HYF.out.2.1.mod0 HM5.out) HSA.out.2.1 HYF.out.2.2.1 HSA.out.2.2 HYF.out.2.2.2 HLE.out.2)
    clear m5 HP1 kr kh
    cases h1 : pickP s.l y.w.l with
    | none =>
     rw [h1] at hP
     simp only at hP
     subst hP
     have HE : Hid (resP T (X.map loP) ([], []) = .error 8) := Lib.hid (by rw [HP.out]; exact res_bad HY.out HFT.out (.inl h1))
     go_wp2_with fail
     go_at_call 86
     refine HP2.out.mono ?_
     rintro e w6 ⟨m6, hP⟩
     have HM6 : Hid (Mod (fun _ => False) w1 w6) := Lib.hid (HM5.out.then m6 (fun j hj e => by have := (HO.out.2.1.lt j e).1; omega))
     clear m6
     cases h2 : pickP s.l y.r.l with
     | none =>
      rw [h2] at hP
      simp only at hP
      subst hP
      go_wp2_with fail
      refine bodyPost_ret (results_tmp3 rfl _ _ _) rfl ?_
      unfold ResA
      rw [HE.out]
      exact ⟨HM6.out, rfl⟩
     | some B1 =>
      rw [h2] at hP
      obtain ⟨v5, rfl, -, -⟩ := hP
      go_wp2_with fail
      refine bodyPost_ret (results_tmp3 rfl _ _ _) rfl ?_
      unfold ResA
      rw [HE.out]
      exact ⟨HM6.out, rfl⟩
    | some A1 =>
     rw [h1] at hP
     obtain ⟨v4, rfl, hO4, hx4⟩ := hP
     have HV4 := Lib.hid (And.intro hO4 hx4)
     have H1 := Lib.hid h1
     clear hO4 hx4 h1
     go_wp2_with fail
     go_at_call 86
     refine HP2.out.mono ?_
     rintro e w6 ⟨m6, hP⟩
     have HM6 : Hid (Mod (fun _ => False) w1 w6) := Lib.hid (HM5.out.then m6 (fun j hj e => by have := (HO.out.2.1.lt j e).1; omega))
     cases h2 : pickP s.l y.r.l with
     | none =>
      rw [h2] at hP
      simp only at hP
      subst hP
      have HE : Hid (resP T (X.map loP) ([], []) = .error 8) := Lib.hid (by rw [HP.out]; exact res_bad HY.out HFT.out (.inr h2))
      clear m6
      go_wp2_with fail
      refine bodyPost_ret (results_tmp3 rfl _ _ _) rfl ?_
      unfold ResA
      rw [HE.out]
      exact ⟨HM6.out, rfl⟩
     | some B1 =>
      rw [h2] at hP
      obtain ⟨v5, rfl, hO5, hx5⟩ := hP
      have HPN : Hid (resP T (X.map loP) ([], []) = resP T ((X.drop (i + 1)).map loP) (Wl ++ A1, Rl ++ B1)) := Lib.hid (by rw [HP.out]; exact res_step HY.out HFT.out H1.out h2)
      have HON : Hid (SlOwn kc 32 82 w6 w1.heap.size v4 (Wl ++ A1) ∧ SlOwn kc 32 82 w6 w1.heap.size v5 (Rl ++ B1) ∧ (Wl ++ A1).length + (Rl ++ B1).length = loSum (X.take (i + 1)) ∧ ∀ j, v4.ownBlock = some j → v5.ownBlock ≠ some j) := Lib.hid (by
       have hl4 := HV4.out.1.lt
       have hs4 := HO.out.1.lt
       have hs5 := HO.out.2.1.lt
       refine ⟨HV4.out.1.mod m6 (fun j hj e => ?_), hO5, ?_, fun j hj e => ?_⟩
       ·have h5 := (hs5 j e).2
        have h6 := HW4.out
        rcases HV4.out.2 j hj with h | h
        ·exact HO.out.2.2.2 j h e
        ·omega
       ·rw [List.length_append, List.length_append, pick_len H1.out, pick_len h2, loSum_snoc HY.out, ← HO.out.2.2.1]
        omega
       ·have h6 := HW4.out
        have h7 := HW5.out
        have h8 := (hl4 j hj).2
        rcases HV4.out.2 j hj with h | h
        ·rcases hx5 j e with h' | h'
         ·exact HO.out.2.2.2 j h h'
         ·have := (hs4 j h).2
          omega
        ·rcases hx5 j e with h' | h'
         ·have := (hs5 j h').2
          omega
         ·omega)
      clear m6 hO5 hx5 h2
      go_wp2_with fail
      go_roundw
      case rel => exact ⟨i + 1, Wl ++ A1, Rl ++ B1, by omega, by go_num, HON, HPN, HM6⟩
      case measure => simp [intOf]; omega
  ·have hd := decide_eq_false hlt
   have HE : Hid (resP T (X.map loP) ([], []) = .ok (Wl, Rl)) := Lib.hid (by
    rw [HP.out, List.drop_of_length_le (by have := HX.out.2.2.1; omega)]
    rfl)
   obtain ⟨a4, c4, v4, rfl, hcl4, hN4⟩ := HO.out.1.clip keysT
   obtain ⟨a5, c5, v5, rfl, hcl5, hN5⟩ := HO.out.2.1.clip keysT
   have HC4 := Lib.hid hcl4
   have HC5 := Lib.hid hcl5
   have HN45 := Lib.hid (And.intro hN4 hN5)
   clear hcl4 hcl5 hN4 hN5
   go_wp2_with fail
   go_at_call 79
   refine (clipKr_c v4 _ _ HC4.out).mono ?_
   rintro e w5 ⟨rfl, rfl⟩
   go_wp2_with fail
   go_at_call 79
   refine (clipKr_c v5 _ _ HC5.out).mono ?_
   rintro e w6 ⟨rfl, rfl⟩
   go_wp2_with fail
   refine bodyPost_ret (results_tmp3 rfl _ _ _) rfl ?_
   unfold ResA
   rw [HE.out]
   exact ⟨HM.out, _, _, rfl, HN45.out.1, HN45.out.2⟩
end Go.Proofs.YtiaehkkkcaeaiaaGreatDoor
namespace Go.Proofs.YtiaehkkkcaeaiaaGreatDoor
open Go.RowKit
open Go.ChangeMaps (setBlock)
attribute [local go_sem ↓] wlKey ldKey stKey ldSg stSg wlTc ldTc stTc eqKey1
attribute [local go_sem] cell_blk frozen_blk kc_ext one_int one_bool one_ptr one_slice one_map kc_one kc_one0 kc_size zKey_size sgc_size sgc_ext sgc_one0 sgc_one' txr_size txr_all txr_one txr_one' txr0 txr38 txr39 txr0' txr38' txr39' zTx_size Value.cells
attribute [local go_sem ↓] wlMsg ldMsg stMsg ldRole stRole
attribute [local go_sem] zRole_size mgx_size mgx_ext mgx_one mgx_one0
theorem bRole1 (k : Key) (w : World) : (Instr.build 91 #[(0, .agg (kc k))]).run Tryz.prog w = .ok (.agg (rcr ⟨k, false, false⟩)) w := by
 refine run_build_struct (z := .agg zRole) (places := #[(0, 32), (32, 1), (33, 1)]) Tryz.underlying91 (fun w => by kernel_rfl) (fun w => by kernel_rfl) ?_ w
 show Instr.fill _ zRole [(0, _)] = _
 rw [fill_cons (off := 0) (n := 32) rfl (by simp [Value.cells]) (by rw [zRole_size]; omega)]
 show some _ = some _
 congr 1
 apply Array.toList_inj.1
 have hk : (kc k).toList.length = 32 := by simp
 rw [wr_list _ _ _ (by rw [zRole_size]; simp [Value.cells])]
 simp only [Value.cells, List.take_zero, List.nil_append, hk]
 unfold rcr rc kx zRole
 simp
theorem bRole2 (k : Key) (b : Bool) (w : World) : (Instr.build 91 #[(0, .agg (kc k)), (2, .bool b)]).run Tryz.prog w = .ok (.agg (rcr ⟨k, false, b⟩)) w := by
 refine run_build_struct (z := .agg zRole) (places := #[(0, 32), (32, 1), (33, 1)]) Tryz.underlying91 (fun w => by kernel_rfl) (fun w => by kernel_rfl) ?_ w
 show Instr.fill _ zRole [(0, _), (2, _)] = _
 rw [fill_cons (off := 0) (n := 32) rfl (by simp [Value.cells]) (by rw [zRole_size]; omega), fill_cons (off := 33) (n := 1) rfl (by simp [Value.cells]) (by rw [wr_size, zRole_size]; omega)]
 show some _ = some _
 congr 1
 apply Array.toList_inj.1
 have hk : (kc k).toList.length = 32 := by simp
 rw [wr_list _ _ _ (by rw [wr_size, zRole_size]; simp [Value.cells]), wr_list _ _ _ (by rw [zRole_size]; simp [Value.cells])]
 simp only [Value.cells, List.take_zero, List.nil_append, hk]
 unfold rcr rc kx zRole
 have h1 : (kc k).toList.take 33 = (kc k).toList := List.take_of_length_le (by omega)
 have h2 : (kc k).toList.drop 34 = [] := List.drop_of_length_le (by omega)
 simp [List.take_append, List.drop_append, hk, h1, h2]
theorem role_setW {C : Array Value} {o : Nat} {r : Role} (he : C.extract o (o + 34) = rcr r) (hle : o + 34 ≤ C.size) (b : Bool) : C.setIfInBounds (o + 33) (.bool b) = wr C o (rcr ⟨r.k, r.s, b⟩).toList := by
 have hl : (rcr ⟨r.k, r.s, b⟩).toList.length = 34 := by rw [Array.length_toList]; exact rolesT.size _
 apply Array.ext_getElem?
 intro t
 rw [wr_get _ _ _ (by rw [hl]; exact hle), hl, Array.getElem?_setIfInBounds]
 by_cases h1 : o ≤ t ∧ t < o + 34
 ·rw [if_pos h1, Array.getElem?_toList]
  obtain ⟨j, rfl⟩ : ∃ j, t = o + j := ⟨t - o, by omega⟩
  rw [Nat.add_sub_cancel_left]
  have hj : j < 34 := by omega
  by_cases h2 : j = 33
  ·subst h2
   rw [if_pos rfl, if_pos (by omega)]
   exact (kx_get r.k [.bool r.s, .bool b] 1).symm
  ·rw [if_neg (by omega)]
   have h3 := congrArg (fun A : Array Value => A[j]?) he
   simp only [Array.getElem?_extract] at h3
   rw [if_pos (by omega)] at h3
   rw [h3]
   by_cases h4 : j = 32
   ·subst h4
    exact (kx_get r.k [.bool r.s, .bool r.w] 0).trans (kx_get r.k [.bool r.s, .bool b] 0).symm
   ·have hk : ∀ q : Bool, (rcr ⟨r.k, r.s, q⟩)[j]? = (kc r.k)[j]? := fun q => by
     show (rc r.k r.s q)[j]? = _
     have h5 : (rc r.k r.s q).extract 0 32 = kc r.k := kx_key _ _
     rw [← h5, Array.getElem?_extract, if_pos (by have : (rc r.k r.s q).size = 34 := rolesT.size ⟨r.k, r.s, q⟩; omega)]
     simp
    exact (hk r.w).trans (hk b).symm
 ·rw [if_neg h1, if_neg (by omega)]
theorem SlOwn.baseR {α : Type} {f : α → Array Value} {n : Nat} {E : TypeId} {w : World} {b b' : Nat} {v : Value} {l : List α} (h : SlOwn f n E w b v l) (hb : b' ≤ b) : SlOwn f n E w b' v l :=
 ⟨h.1, h.2.imp_right (fun ⟨g, cap, cur, e, h1, rest⟩ => ⟨g, cap, cur, e, Nat.le_trans hb h1, rest⟩)⟩
def RolA (res : Except Nat (List Role)) (w : World) (e : Ending) (w' : World) : Prop := Mod (fun _ => False) w w' ∧ match res with
 | .ok ro => ∃ v, e = .returned (.tuple #[v, .int .i64 0]) ∧ NewS rcr 34 91 w.heap.size w' v ro
 | .error n => e = .returned (.tuple #[.slice none 0 0, .int .i64 (n : Int)])
theorem map_snoc {α β : Type} {l : List α} {i : Nat} {x : α} (f : α → β) (h : l[i]? = some x) : (l.take (i + 1)).map f = (l.take i).map f ++ [f x] := by
 rw [List.take_add_one, h]
 simp
set_option maxRecDepth 20000 in
theorem clipRo_c (v2 : Value) (w : World) (n : Nat) {a : Option Addr} {c : Nat} (h : ∀ w2, (Instr.sliceAt 36 (.slice a n c) none (some (.int .i64 (n : Int))) (some (.int .i64 (n : Int)))).run Tryz.prog w2 = .ok v2 w2) :
  Calls Tryz.prog 89 #[.slice a n c] w fun e w' => e = .returned v2 ∧ w' = w := by
 go_enter Tryz.func89, Tryz.ntmps89
 go_wp2_with fail
 go_ret
 exact ⟨rfl, rfl⟩
def fixR (r : Role) : Role := ⟨r.k, r.s, r.w && !knownP r.k⟩
def rlK (l : List Role) : List Key := l.map (·.k)
def RowR (C : Array Value) (l : List Role) : Prop := ∀ j y, l[j]? = some y → C.extract (0 + j * 34) (0 + j * 34 + 34) = rcr y ∧ 0 + j * 34 + 34 ≤ C.size
theorem own_rows {w : World} {b : Nat} {v : Value} {l : List Role} (h : SlOwn rcr 34 91 w b v l) (hne : l ≠ []) : ∃ g cap C, v = .slice (some ⟨g, 0, none⟩) l.length cap ∧ b ≤ g ∧ l.length ≤ cap ∧ w.heap[g]? = some (.cells C 91 (0, 0)) ∧ RowR C l := by
 obtain ⟨a', c', e', hs, _⟩ := h.at rolesT
 rcases h.2 with ⟨_, hn⟩ | ⟨g, cap, cur, e, hb, hg, hnc, hcm, hcs, htake⟩
 ·exact absurd (List.eq_nil_of_length_eq_zero hn) hne
 ·refine ⟨g, cap, cur, e, hb, hnc, hg, fun j y hy => ?_⟩
  obtain ⟨g', o', C', U', fr', ha, hk, he, hle⟩ := hs.block hy
  rw [e] at e'
  injection e' with e1 _ _
  rw [ha] at e1
  cases e1
  rw [hg] at hk
  cases hk
  exact ⟨he, hle⟩
theorem fix_get {l : List Role} {i : Nat} {r : Role} (h : l[i]? = some r) : ((l.take i).map fixR ++ l.drop i)[i]? = some r := by
 obtain ⟨hi, e⟩ := List.getElem?_eq_some_iff.1 h
 rw [List.getElem?_append_right (by simp; omega), List.length_map, List.length_take, Nat.min_eq_left (by omega), Nat.sub_self, List.getElem?_drop, Nat.add_zero, h]
theorem fix_set {l : List Role} {i : Nat} {r : Role} (h : l[i]? = some r) : ((l.take i).map fixR ++ l.drop i).set i (fixR r) = (l.take (i + 1)).map fixR ++ l.drop (i + 1) := by
 obtain ⟨hi, e⟩ := List.getElem?_eq_some_iff.1 h
 have hl : ((l.take i).map fixR).length = i := by rw [List.length_map, List.length_take]; omega
 rw [List.set_append_right _ _ (by omega), hl, Nat.sub_self, List.drop_eq_getElem_cons hi, zG, map_snoc fixR h]
 simp
theorem RowR.step {C : Array Value} {l : List Role} {i : Nat} {r : Role} (hR : RowR C ((l.take i).map fixR ++ l.drop i)) (h : l[i]? = some r) : RowR (C.setIfInBounds (0 + i * 34 + 33) (.bool (fixR r).w)) ((l.take (i + 1)).map fixR ++ l.drop (i + 1)) := by
 obtain ⟨h1, h2⟩ := hR i r (fix_get h)
 rw [role_setW h1 h2, ← fix_set h]
 have hi := (List.getElem?_eq_some_iff.1 h).1
 exact row_set (fun x => rolesT.size x) hR (by simp; omega) (fixR r)
set_option maxRecDepth 20000 in
set_option maxHeartbeats 6400000 in
theorem rolesOf_c (x : RdR) (LW LR : List Key) (wa ra : Option Addr) (wc rcx : Nat) (w : World) (hK : SlAt kc 32 w x.ks.a x.ks.l) (hb : x.ks.l.length ≤ 1000000) (hW : SlAt kc 32 w wa LW) (hR : SlAt kc 32 w ra LR) (h1 : LW.length ≤ 100000) (h2 : LR.length ≤ 100000) :
  Calls Tryz.prog 38 #[.agg (msr x), .slice wa LW.length wc, .slice ra LR.length rcx] w (RolA (rolesP (msgP x) LW LR) w) := by
 obtain ⟨nW, hnW⟩ : ∃ n, LW.length = n := ⟨_, rfl⟩
 obtain ⟨nR, hnR⟩ : ∃ n, LR.length = n := ⟨_, rfl⟩
 have HW := Lib.hid (And.intro hW hnW)
 have HR := Lib.hid (And.intro hR hnR)
 rw [hnW] at h1 ⊢
 rw [hnR] at h2 ⊢
 have HOW := Lib.hid (fun w1 (m : Mod (fun _ => False) w w1) => own_c x w1 (hK.mod0 m) hb)
 obtain ⟨K0, hK0⟩ : ∃ K0, x.ks.l.mapIdx (ownRP (msgP x)) = K0 := ⟨_, rfl⟩
 have HK0 := Lib.hid hK0
 have HB : Hid (K0.length ≤ 1000000) := Lib.hid (by rw [← hK0, List.length_mapIdx]; exact hb)
 show Calls Tryz.prog 38 #[.agg (mgx x.v0 x.h0 x.h1 x.h2 x.ks.a x.ks.l.length x.ks.c x.rc x.ins.a x.ins.l.length x.ins.c x.lks.a x.lks.l.length x.lks.c), .slice wa nW wc, .slice ra nR rcx] w _
 clear hK hW hR hnW hnR hK0
 go_enter Tryz.func38, Tryz.ntmps38
 go_upto_region 0 with fail
 refine wp_pass0 (C := fun _ _ _ => False) (κ := fun i => [3, 0, 0].getD i 0) [0, 1, 2] (by kernel_rfl) (by kernel_rfl) (fun _ _ d _ _ h => by cases d <;> first | exact h | exact absurd h (hP _ _ _)) ?_
 (refine TD.box (v := ?v1) (by simp only [zK]; rfl) rfl (by rfl) rfl rfl ?hx1 (fun p3 hp3 => ?n1); (case hx1 => simp only [Act.eval, zM]; try rfl); try simp only [Act.put, zL])
 iterate 2 (refine TD.val0 (v := ?_) (by simp only [zK]; rfl) rfl (by rfl) (fun w1 => ?_) ?_; rotate_left; (next => go_simp; try with_reducible rfl); try simp only [Act.put, zL])
 refine TD.nil (fun w1 hr => ?_)
 have kp3 := hr.box p3 _ (by first | exact Bx.set_same _ _ _ | (simp only [Bx.set_same]; rfl)); dsimp only [Value.cells] at kp3; obtain ⟨gp3, kp3⟩ := kp3
 have HM1 := Lib.hid hr.mod
 clear hr
 go_wp2_with fail
 go_at_call 87
 refine (HOW.out w1 HM1.out).mono ?_
 rintro e w2 ⟨v, rfl, hO, m2⟩
 have HO0 : Hid (SlOwn rcr 34 91 w2 w.heap.size v K0) := Lib.hid (by rw [HK0.out] at hO; exact hO.baseR HM1.out.size)
 have HM0 : Hid (Mod (fun _ => False) w w2) := Lib.hid (HM1.out.trans m2)
 have HB0 : Hid (K0.length ≤ 1200000 ∧ nW ≤ 100000) := Lib.hid ⟨by have := HB.out; omega, h1⟩
 clear hO m2 kp3
 go_wp2_with fail
 go_loopw [8, 19] (fun s8 si ws => ∃ i : Nat, i ≤ nW ∧ si = .int .i64 (i : Int) ∧ Hid (SlOwn rcr 34 91 ws w.heap.size s8 (K0 ++ (LW.take i).map (fun k => (⟨k, false, true⟩ : Role)))) ∧ Hid (Mod (fun _ => False) w ws)) (fun _ si _ => nW - (intOf si).toNat)
 case atStart => exact ⟨0, Nat.zero_le _, rfl, Lib.hid (by rw [List.take_zero, List.map_nil, List.append_nil]; exact HO0.out), HM0⟩
 case round =>
  obtain ⟨i, hi, rfl, HO, HM⟩ := hrel
  by_cases hlt : i < nW
  ·have hd := decide_eq_true hlt
   obtain ⟨k, hk⟩ : ∃ k, LW[i]? = some k := ⟨_, List.getElem?_eq_getElem (by have := HW.out.2; omega)⟩
   obtain ⟨g, o, C, U, fr, rfl, kg, he, hle⟩ := (HW.out.1.mod0 HM.out).block hk
   have HT := Lib.hid (map_snoc (fun k => (⟨k, false, true⟩ : Role)) hk)
   clear hk
   go_upto_region 4 with fail
   have Lkg := lt_size kg
   refine wp_pass0 (C := fun _ _ _ => False) (κ := fun i => [0, 1, 3, 4].getD i 0) [0, 1, 2, 3] (by kernel_rfl) (by kernel_rfl) (fun _ _ d _ _ h => by cases d <;> first | exact h | exact absurd h (hP _ _ _)) ?_
   (refine TD.val0 (v := ?_) (by simp only [zK]; rfl) rfl (by rfl) (fun w1 => ?_) ?_; rotate_left; (next => go_simp; try with_reducible rfl); try simp only [Act.put, zL])
   (refine TD.load (v := ?_) (p := ?_) (Mod.refl _ _) (by simp only [zK]; rfl) rfl (by rfl) rfl ?_ (fun wq hSq => ?_) ?_; rotate_left 2; (next => simp only [Act.eval, zM]; try rfl); (next => have kgq := hSq.at kg (fun h => h); go_simp; try with_reducible rfl); try simp only [Act.put, zL])
   (refine TD.allocB (by simp only [zK]; rfl) rfl (by rfl) rfl rfl alKey (fun p10 hp10 => ?n6); try simp only [Act.put, zL])
   (refine TD.storeB (d := ?d7) (T := ?T7) (y := ?y7) (p := ?p7) (b := ?b7) (v := ?v7) (by simp only [zK]; rfl) rfl (by rfl) ?hd7 ?hop7 ?hev7 ?hx7 ?hb7 ?htag7 (fun w1 hb1 => ?hy7) ?hn7; (case hd7 => rfl); (case hop7 => rfl); (case hev7 => (simp only [Act.eval, zM]; (try rfl))); (case hx7 => simp only [Act.eval, zM]; try rfl); (case hb7 => first | exact Bx.set_same _ _ _ | (simp only [Bx.set_same]; rfl)); (case hy7 => (go_simp; (try first | with_reducible rfl | (rw [setCell_blk hb1]; rfl)))); try simp only [Act.put, zL])
   refine TD.nil (fun w3 hr => ?_)
   replace kg := hr.mod.at kg (fun h => h)
   have kp10 := hr.box p10 _ (by first | exact Bx.set_same _ _ _ | (simp only [Bx.set_same]; rfl)); dsimp only [Value.cells] at kp10; obtain ⟨gp10, kp10⟩ := kp10
   have HM3 := Lib.hid (HM.out.then0 hr.mod)
   have HO3 := Lib.hid (HO.out.mod0 hr.mod)
   clear hr he hle kg
   have hb := (fun k => bRole2 k true) k
   have hbs := bsRole ((fun k => (⟨k, false, true⟩ : Role)) k)
   obtain ⟨a2, c2, rfl, _⟩ := HO3.out.at rolesT
   generalize hll : (K0 ++ (LW.take i).map (fun k => (⟨k, false, true⟩ : Role))).length = ll at *
   have HLL : Hid (ll ≤ 1300000) := Lib.hid (by rw [← hll, List.length_append, List.length_map, List.length_take]; have := HB0.out; omega)
   go_upto_region 5 with fail
   have Lkp10 := lt_size kp10
   refine wp_pass0 (C := fun _ _ _ => False) (κ := fun i => [0, 1, 0, 3, 5, 0].getD i 0) [0, 1, 2, 3, 4, 5] (by kernel_rfl) (by kernel_rfl) (fun _ _ d _ _ h => by cases d <;> first | exact h | exact absurd h (hP _ _ _)) ?_
   (refine TD.val0 (v := ?_) (by simp only [zK]; rfl) rfl (by rfl) (fun w1 => ?_) ?_; rotate_left; (next => go_simp; try with_reducible rfl); try simp only [Act.put, zL])
   (refine TD.load (v := ?_) (p := ?_) (Mod.refl _ _) (by simp only [zK]; rfl) rfl (by rfl) rfl ?_ (fun wq hSq => ?_) ?_; rotate_left 2; (next => simp only [Act.eval, zM]; try rfl); (next => have kp10q := hSq.at kp10 (fun h => h); go_simp; try with_reducible rfl); try simp only [Act.put, zL])
   (refine TD.build (v := ?v10) (ps := ?p10) (by simp only [zK]; rfl) rfl (by rfl) rfl ?hx10 (fun w1 => ?y10) ?n10; (case hx10 => (simp only [List.map_toArray, List.map_cons, List.map_nil, Act.eval, zM]; (try rfl))); (case y10 => (rw [hb]; (try with_reducible rfl))); try simp only [Act.put, zL])
   (refine TD.bslice (by simp only [zK]; rfl) rfl (by rfl) rfl rfl ?hx11 hbs (fun p26 hp26 => ?n11); (case hx11 => (simp only [List.map_toArray, List.map_cons, List.map_nil, Act.eval, zM]; (try rfl))); try simp only [Act.put, zL])
   refine TD.eff (by simp only [zK]; rfl) rfl (fun w6 hr => ?_)
   replace kp10 := hr.mod.at kp10 (fun h => h)
   have kp26 := hr.box p26 _ (by first | exact Bx.set_same _ _ _ | (simp only [Bx.set_same]; rfl)); dsimp only [Value.cells] at kp26; obtain ⟨gp26, kp26⟩ := kp26
   have HM6 := Lib.hid (HM3.out.then0 hr.mod)
   obtain ⟨v5, w7, hap, hO7, m7, hn7⟩ := SlOwn.appendB rolesT (q := [(fun k => (⟨k, false, true⟩ : Role)) k]) (c := 1) (HO3.out.mod0 hr.mod) (SlAt.one kp26 _ rfl (rolesT.size _)) (by have := HLL.out; rw [hll]; simp only [List.length_singleton]; omega) (by have := HLL.out; rw [hll]; simp only [List.length_singleton]; omega) HM6.out.size 36
   have hlo := HO3.out.lt
   have HO7 : Hid (SlOwn rcr 34 91 w7 w.heap.size v5 (K0 ++ (LW.take (i + 1)).map (fun k => (⟨k, false, true⟩ : Role)))) := Lib.hid (by rw [HT.out, ← List.append_assoc]; exact hO7)
   have HM7 : Hid (Mod (fun _ => False) w w7) := Lib.hid (HM6.out.then m7 (fun j hj e => by have := (hlo j (by simpa [hll] using e)).1; omega))
   try rw [hll] at hap
   clear hr hO7 m7 hn7 hlo hb hbs kp26 kp10 hll
   (refine eff_append (by simp only [zK]; rfl) (by rfl) rfl ?hx13 ?hz13 hap ?n13; (case hx13 => simp only [Act.eval, zM]; try rfl); (case hz13 => simp only [Act.eval, zM]; try rfl); try simp only [Act.put, zL])
   (refine TE.val0 (v := ?v14) (by simp only [zK]; rfl) (by rfl) (fun w1 => ?y14) ?n14; (case y14 => go_simp; try with_reducible rfl); try simp only [Act.put, zL])
   refine TE.nil ?_
   go_wp2_with fail
   go_roundw
   case rel => exact ⟨i + 1, by omega, by go_num, HO7, HM7⟩
   case measure => simp [intOf]; omega
  ·have hd := decide_eq_false hlt
   obtain rfl : nW = i := by omega
   obtain ⟨K1, hK1⟩ : ∃ K1, K0 ++ LW.map (fun k => (⟨k, false, true⟩ : Role)) = K1 := ⟨_, rfl⟩
   have HK1 := Lib.hid hK1
   have HO0 : Hid (SlOwn rcr 34 91 wr w.heap.size _ K1) := Lib.hid (by
    have := HO.out
    rw [List.take_of_length_le (by have := HW.out.2; omega), hK1] at this
    exact this)
   have HM0 := HM
   have HB0 : Hid (K1.length ≤ 1200000 ∧ nR ≤ 100000) := Lib.hid ⟨by rw [← hK1, List.length_append, List.length_map, HW.out.2]; have := HB.out; omega, h2⟩
   clear hK1 HO HM hd hi hlt
   obtain ⟨wa0, rfl⟩ : ∃ wa0 : World, wa0 = wr := ⟨_, rfl⟩
   go_wp2_with fail
   go_loopw [8, 31] (fun s8 si ws => ∃ i : Nat, i ≤ nR ∧ si = .int .i64 (i : Int) ∧ Hid (SlOwn rcr 34 91 ws w.heap.size s8 (K1 ++ (LR.take i).map (fun k => (⟨k, false, false⟩ : Role)))) ∧ Hid (Mod (fun _ => False) w ws)) (fun _ si _ => nR - (intOf si).toNat)
   case atStart => exact ⟨0, Nat.zero_le _, rfl, Lib.hid (by rw [List.take_zero, List.map_nil, List.append_nil]; exact HO0.out), HM0⟩
   case round =>
    obtain ⟨i, hi, rfl, HO, HM⟩ := hrel
    by_cases hlt : i < nR
    ·have hd := decide_eq_true hlt
     obtain ⟨k, hk⟩ : ∃ k, LR[i]? = some k := ⟨_, List.getElem?_eq_getElem (by have := HR.out.2; omega)⟩
     obtain ⟨g, o, C, U, fr, rfl, kg, he, hle⟩ := (HR.out.1.mod0 HM.out).block hk
     have HT := Lib.hid (map_snoc (fun k => (⟨k, false, false⟩ : Role)) hk)
     clear hk
     go_upto_region 9 with fail
     have Lkg := lt_size kg
     refine wp_pass0 (C := fun _ _ _ => False) (κ := fun i => [0, 1, 3, 4].getD i 0) [0, 1, 2, 3] (by kernel_rfl) (by kernel_rfl) (fun _ _ d _ _ h => by cases d <;> first | exact h | exact absurd h (hP _ _ _)) ?_
     (refine TD.val0 (v := ?_) (by simp only [zK]; rfl) rfl (by rfl) (fun w1 => ?_) ?_; rotate_left; (next => go_simp; try with_reducible rfl); try simp only [Act.put, zL])
     (refine TD.load (v := ?_) (p := ?_) (Mod.refl _ _) (by simp only [zK]; rfl) rfl (by rfl) rfl ?_ (fun wq hSq => ?_) ?_; rotate_left 2; (next => simp only [Act.eval, zM]; try rfl); (next => have kgq := hSq.at kg (fun h => h); go_simp; try with_reducible rfl); try simp only [Act.put, zL])
     (refine TD.allocB (by simp only [zK]; rfl) rfl (by rfl) rfl rfl alKey (fun p12 hp12 => ?n17); try simp only [Act.put, zL])
     (refine TD.storeB (d := ?d18) (T := ?T18) (y := ?y18) (p := ?p18) (b := ?b18) (v := ?v18) (by simp only [zK]; rfl) rfl (by rfl) ?hd18 ?hop18 ?hev18 ?hx18 ?hb18 ?htag18 (fun w1 hb1 => ?hy18) ?hn18; (case hd18 => rfl); (case hop18 => rfl); (case hev18 => (simp only [Act.eval, zM]; (try rfl))); (case hx18 => simp only [Act.eval, zM]; try rfl); (case hb18 => first | exact Bx.set_same _ _ _ | (simp only [Bx.set_same]; rfl)); (case hy18 => (go_simp; (try first | with_reducible rfl | (rw [setCell_blk hb1]; rfl)))); try simp only [Act.put, zL])
     refine TD.nil (fun w3 hr => ?_)
     replace kg := hr.mod.at kg (fun h => h)
     have kp12 := hr.box p12 _ (by first | exact Bx.set_same _ _ _ | (simp only [Bx.set_same]; rfl)); dsimp only [Value.cells] at kp12; obtain ⟨gp12, kp12⟩ := kp12
     have HM3 := Lib.hid (HM.out.then0 hr.mod)
     have HO3 := Lib.hid (HO.out.mod0 hr.mod)
     clear hr he hle kg
     have hb := (fun k => bRole1 k) k
     have hbs := bsRole ((fun k => (⟨k, false, false⟩ : Role)) k)
     obtain ⟨a2, c2, rfl, _⟩ := HO3.out.at rolesT
     generalize hll : (K1 ++ (LR.take i).map (fun k => (⟨k, false, false⟩ : Role))).length = ll at *
     have HLL : Hid (ll ≤ 1300000) := Lib.hid (by rw [← hll, List.length_append, List.length_map, List.length_take]; have := HB0.out; omega)
     go_upto_region 10 with fail
     have Lkp12 := lt_size kp12
     refine wp_pass0 (C := fun _ _ _ => False) (κ := fun i => [0, 1, 0, 3, 5, 0].getD i 0) [0, 1, 2, 3, 4, 5] (by kernel_rfl) (by kernel_rfl) (fun _ _ d _ _ h => by cases d <;> first | exact h | exact absurd h (hP _ _ _)) ?_
     (refine TD.val0 (v := ?_) (by simp only [zK]; rfl) rfl (by rfl) (fun w1 => ?_) ?_; rotate_left; (next => go_simp; try with_reducible rfl); try simp only [Act.put, zL])
     (refine TD.load (v := ?_) (p := ?_) (Mod.refl _ _) (by simp only [zK]; rfl) rfl (by rfl) rfl ?_ (fun wq hSq => ?_) ?_; rotate_left 2; (next => simp only [Act.eval, zM]; try rfl); (next => have kp12q := hSq.at kp12 (fun h => h); go_simp; try with_reducible rfl); try simp only [Act.put, zL])
     (refine TD.build (v := ?v21) (ps := ?p21) (by simp only [zK]; rfl) rfl (by rfl) rfl ?hx21 (fun w1 => ?y21) ?n21; (case hx21 => (simp only [List.map_toArray, List.map_cons, List.map_nil, Act.eval, zM]; (try rfl))); (case y21 => (rw [hb]; (try with_reducible rfl))); try simp only [Act.put, zL])
     (refine TD.bslice (by simp only [zK]; rfl) rfl (by rfl) rfl rfl ?hx22 hbs (fun p38 hp38 => ?n22); (case hx22 => (simp only [List.map_toArray, List.map_cons, List.map_nil, Act.eval, zM]; (try rfl))); try simp only [Act.put, zL])
     refine TD.eff (by simp only [zK]; rfl) rfl (fun w6 hr => ?_)
     replace kp12 := hr.mod.at kp12 (fun h => h)
     have kp38 := hr.box p38 _ (by first | exact Bx.set_same _ _ _ | (simp only [Bx.set_same]; rfl)); dsimp only [Value.cells] at kp38; obtain ⟨gp38, kp38⟩ := kp38
     have HM6 := Lib.hid (HM3.out.then0 hr.mod)
     obtain ⟨v5, w7, hap, hO7, m7, hn7⟩ := SlOwn.appendB rolesT (q := [(fun k => (⟨k, false, false⟩ : Role)) k]) (c := 1) (HO3.out.mod0 hr.mod) (SlAt.one kp38 _ rfl (rolesT.size _)) (by have := HLL.out; rw [hll]; simp only [List.length_singleton]; omega) (by have := HLL.out; rw [hll]; simp only [List.length_singleton]; omega) HM6.out.size 36
     have hlo := HO3.out.lt
     have HO7 : Hid (SlOwn rcr 34 91 w7 w.heap.size v5 (K1 ++ (LR.take (i + 1)).map (fun k => (⟨k, false, false⟩ : Role)))) := Lib.hid (by rw [HT.out, ← List.append_assoc]; exact hO7)
     have HM7 : Hid (Mod (fun _ => False) w w7) := Lib.hid (HM6.out.then m7 (fun j hj e => by have := (hlo j (by simpa [hll] using e)).1; omega))
     try rw [hll] at hap
     clear hr hO7 m7 hn7 hlo hb hbs kp38 kp12 hll
     (refine eff_append (by simp only [zK]; rfl) (by rfl) rfl ?hx24 ?hz24 hap ?n24; (case hx24 => simp only [Act.eval, zM]; try rfl); (case hz24 => simp only [Act.eval, zM]; try rfl); try simp only [Act.put, zL])
     (refine TE.val0 (v := ?v25) (by simp only [zK]; rfl) (by rfl) (fun w1 => ?y25) ?n25; (case y25 => go_simp; try with_reducible rfl); try simp only [Act.put, zL])
     refine TE.nil ?_
     go_wp2_with fail
     go_roundw
     case rel => exact ⟨i + 1, by omega, by go_num, HO7, HM7⟩
     case measure => simp [intOf]; omega
    ·have hd := decide_eq_false hlt
     obtain rfl : nR = i := by omega
     obtain ⟨Lf, hLf⟩ : ∃ Lf, K1 ++ LR.map (fun k => (⟨k, false, false⟩ : Role)) = Lf := ⟨_, rfl⟩
     have HLF : Hid (rolesL (msgP x) LW LR = Lf) := Lib.hid (by rw [← hLf, ← HK1.out, ← HK0.out]; rfl)
     have HOF : Hid (SlOwn rcr 34 91 wr w.heap.size _ Lf) := Lib.hid (by
      have := HO.out
      rw [List.take_of_length_le (by have := HR.out.2; omega), hLf] at this
      exact this)
     have HNB : Hid (Lf.length ≤ 1300000) := Lib.hid (by rw [← hLf, List.length_append, List.length_map, HR.out.2]; have := HB0.out; omega)
     clear hLf HO hd hi hlt
     obtain ⟨wb0, rfl⟩ : ∃ wb0 : World, wb0 = wr := ⟨_, rfl⟩
     by_cases hne : Lf = []
     ·subst hne
      have HE : Hid (rolesP (msgP x) LW LR = .ok []) := Lib.hid (by
       unfold rolesP
       rw [HLF.out]
       simp)
      obtain ⟨a2, c2, v2, rfl, hcl, hN⟩ := HOF.out.clip rolesT
      simp only [List.length_nil] at hcl hN ⊢
      have HCL := Lib.hid hcl
      have HNW := Lib.hid hN
      have hmm := @run_makeMap Tryz.prog
      clear hcl hN
      go_upto_region 13 with fail
      have m2 : Mod (fun _ => False) wb0 (wb0.alloc (.map #[] 0)) := (Mod.refl _ _).alloc _
      generalize wb0.alloc (.map #[] 0) = w2 at *
      have HM2 := Lib.hid (HM.out.then0 m2)
      have HN2 := Lib.hid (HNW.out.mod0 m2)
      clear m2 hmm
      go_wp2_with fail
      go_loopw [44] (fun s44 ws => s44 = .int .i64 0 ∧ ws = w2) (fun _ _ => 0)
      case atStart => exact ⟨rfl, rfl⟩
      case round =>
       obtain ⟨rfl, rfl⟩ := hrel
       go_wp2_with fail
       go_at_call 89
       refine (clipRo_c v2 _ 0 HCL.out).mono ?_
       rintro e w5 ⟨rfl, rfl⟩
       go_wp2_with fail
       refine bodyPost_ret (results_tmp2 rfl _ _ _) rfl ?_
       unfold RolA
       rw [HE.out]
       exact ⟨HM2.out, _, rfl, HN2.out⟩
     ·obtain ⟨g, cap, C, rfl, hgb, hgc, kg, hrow⟩ := own_rows HOF.out hne
      obtain ⟨n, hn⟩ : ∃ n, Lf.length = n := ⟨_, rfl⟩
      have hnb : n ≤ 1300000 := by rw [← hn]; exact HNB.out
      rw [hn] at hgc ⊢
      have HNN := Lib.hid (And.intro hn (And.intro hgb hgc))
      have HRW : Hid (RowR C ((Lf.take 0).map fixR ++ Lf.drop 0)) := Lib.hid (by simpa using hrow)
      have hmm := @run_makeMap Tryz.prog
      clear hrow hn hgb hne
      go_upto_region 13 with fail
      have km : (wb0.alloc (.map #[] 0)).heap[wb0.heap.size]? = some (.map #[] 0) := fresh1 _ _
      have m2 : Mod (fun _ => False) wb0 (wb0.alloc (.map #[] 0)) := (Mod.refl _ _).alloc _
      have hgq : g < wb0.heap.size := lt_size kg
      have kg' := m2.at0 kg
      clear kg
      have kg := kg'
      clear kg'
      generalize wb0.alloc (.map #[] 0) = w2 at *
      generalize wb0.heap.size = q at *
      have HM2 := Lib.hid (HM.out.then0 m2)
      clear m2 hmm
      go_wp2_with fail
      go_loopw [44] (fun s44 ws => ∃ (i : Nat) (Ci : Array Value), i ≤ n ∧ s44 = .int .i64 (i : Int) ∧ (∃ es c, ws.heap[q]? = some (.map es c) ∧ Hid (MapIs kv nv es c (cntM (rlK (Lf.take i))))) ∧ ws.heap[g]? = some (.cells Ci 91 (0, 0)) ∧ Hid (RowR Ci ((Lf.take i).map fixR ++ Lf.drop i)) ∧ Hid (rlK (Lf.take i)).Nodup ∧ Hid (Mod (fun j => j = q ∨ j = g) w2 ws)) (fun s44 _ => n - (intOf s44).toNat)
      case atStart => exact ⟨0, C, by omega, rfl, ⟨_, _, km, Lib.hid (MapIs.empty kv nv)⟩, kg, HRW, Lib.hid (by simp [rlK]), Lib.hid (Mod.refl _ _)⟩
      case round =>
       clear km kg
       obtain ⟨i, Ci, hi, rfl, ⟨es1, cl1, km, HMI⟩, kg, HRi, HND, HMl⟩ := hrel
       by_cases hlt : i < n
       ·have hd := decide_eq_true hlt
        obtain ⟨r, hr0⟩ : ∃ r, Lf[i]? = some r := ⟨_, List.getElem?_eq_getElem (by have := HNN.out; omega)⟩
        have HRR := Lib.hid hr0
        obtain ⟨he, hle⟩ := HRi.out i r (fix_get hr0)
        obtain ⟨k, sg, wt⟩ := r
        rw [Nat.zero_add] at he hle
        have c33 : Ci[i * 34 + 33]? = some (.bool wt) := cellC he (j := 33) (kx_get k [.bool sg, .bool wt] 1)
        have he1 : Ci.extract (i * 34) (i * 34 + 32) = kc k := by
         have h1 : (rcr ⟨k, sg, wt⟩).extract 0 32 = kc k := kx_key _ _
         rw [← h1, ← he, Array.extract_extract]
         congr 1
         omega
        have hle1 : i * 34 + 32 ≤ Ci.size := by omega
        have hkr : rlK (Lf.take (i + 1)) = rlK (Lf.take i) ++ [k] := map_snoc (fun r : Role => r.k) hr0
        have HKR := Lib.hid hkr
        obtain ⟨c, hc⟩ : ∃ c, (lkp k (cntM (rlK (Lf.take i)))).getD 0 = c := ⟨_, rfl⟩
        have hcb : c ≤ 1300000 := by
         rw [← hc, cntM_lkp]
         split
         ·have h1 := List.count_le_length (a := k) (l := rlK (Lf.take i))
          have h2 := List.length_take_le i Lf
          have h3 : (rlK (Lf.take i)).length = (Lf.take i).length := by simp [rlK]
          simp only [zE]
          omega
         ·simp
        have HC0 : Hid (c = 0 ↔ k ∉ rlK (Lf.take i)) := Lib.hid (by
         rw [← hc, cntM_lkp]
         split
         ·rename_i hm
          simp only [zE]
          have := List.count_pos_iff.2 hm
          constructor
          ·intro h; omega
          ·intro h; exact absurd hm h
         ·rename_i hm
          exact ⟨fun _ => hm, fun _ => rfl⟩)
        have hwr : IntKind.i64.wrap ((c : Int) + 1) = ((c + 1 : Nat) : Int) := by rw [IntKind.wrap_i64]; omega
        have hlk : ∀ wq es cl, wq.heap[q]? = some (.map es cl) → MapIs kv nv es cl (cntM (rlK (Lf.take i))) ∨ MapIs kv nv es cl (put k c (cntM (rlK (Lf.take i)))) → (Instr.lookup 148 (.map (some q)) (.agg (kc k)) false).run Tryz.prog wq = .ok (.int .i64 (c : Int)) wq := fun wq es cl hq hM => by
         rcases hM with hM | hM
         ·have := hM.lookupD keyTR Tryz.underlying148 (z := 0) nv_zero wq hq k
          rw [hc] at this
          exact this
         ·have := hM.lookupD keyTR Tryz.underlying148 (z := 0) nv_zero wq hq k
          rw [lkp_put_same, zE] at this
          exact this
        have HLK := Lib.hid hlk
        have hen := fun (wq : World) (hq : wq.heap[q]? = some (.map es1 cl1)) => HMI.out.entry keyTR Tryz.underlying148 (z := 0) nv_zero wq hq k
        simp only [hc] at hen
        have HEN := Lib.hid hen
        have HT1 : Hid (cntM (rlK (Lf.take (i + 1))) = put k (c + 1) (cntM (rlK (Lf.take i)))) := Lib.hid (by rw [hkr, ← hc]; exact cntM_snoc _ _)
        clear hlk hen hc hkr hr0 he hle
        go_upto_region 16 with fail
        go_cut [] from 45 to 83 (fun wx => (∃ es cl, wx.heap[q]? = some (.map es cl) ∧ Hid (MapIs kv nv es cl (cntM (rlK (Lf.take (i + 1)))))) ∧ wx.heap[g]? = some (.cells Ci 91 (0, 0)) ∧ Hid (Mod (fun j => j = q ∨ j = g) w2 wx))
        case first =>
         have Lkg := lt_size kg
         have Lkm := lt_size km
         refine wp_xpass (T0 := fun _ => False) (K := fun _ _ => True) (κ := fun i => [0, 0, 0, 0, 0, 0, 6, 0, 6, 0, 6].getD i 0) (υ := fun i => [[], [], [], [], [], [], [], [], [], [], []].getD i []) [0, 1, 2, 3, 4, 5] [6, 7, 8, 9, 10] (by kernel_rfl) (by kernel_rfl) (Good.true).cl (trivial) (fun _ h => h.elim) ?_
         have gK := Good.true
         iterate 5 (refine TG.v0 (v := ?_) (by simp only [zK]; rfl) rfl (by rfl) (fun w1 => ?_) ?_; rotate_left; (next => go_simp; try with_reducible rfl); try simp only [Act.put, zL])
         (refine TG.load (v := ?v31) (p := ?p31) (by simp only [zK]; rfl) rfl (by rfl) rfl ?hx31 (fun wq hSq => ?y31) ?n31; (case hx31 => simp only [Act.eval, zM]; try rfl); (case y31 => (have kgq := hSq.at kg (fun h => h); have kmq := hSq.at km (fun h => h); go_simp; (try with_reducible rfl))); try simp only [Act.put, zL])
         refine TG.nil (fun w6 ⟨TR, hr⟩ => ?_)
         replace kg := hr.mod.at kg (fun h => h)
         replace km := hr.mod.at km (fun h => h)
         clear gK
         have HM6 := Lib.hid (HMl.out.then0 hr.mod)
         obtain ⟨st, es2, cl2, hrE, M2, hF⟩ := HEN.out w6 km
         have hl6 := HLK.out w6 _ _ km (.inl HMI.out)
         have km7 := heap_setBlock w6 (.map es2 cl2) (lt_size km)
         have mS7 := mod_set w6 q (.map es2 cl2)
         generalize setBlock w6 q (.map es2 cl2) = w7 at *
         have hl7 := HLK.out w7 _ _ km7 (.inr M2)
         obtain ⟨es3, cl3, hrF, M3⟩ := hF w7 (c + 1) km7
         have km8 := heap_setBlock w7 (.map es3 cl3) (lt_size km7)
         have mS8 := mod_set w7 q (.map es3 cl3)
         generalize setBlock w7 q (.map es3 cl3) = w8 at *
         have HEND : Hid ((∃ es cl, w8.heap[q]? = some (.map es cl) ∧ Hid (MapIs kv nv es cl (cntM (rlK (Lf.take (i + 1)))))) ∧ w8.heap[g]? = some (.cells Ci 91 (0, 0)) ∧ Hid (Mod (fun j => j = q ∨ j = g) w2 w8)) := Lib.hid ⟨⟨_, _, km8, Lib.hid (by rw [HT1.out]; exact M3)⟩, mS8.at_ne (mS7.at_ne kg (by omega)) (by omega), Lib.hid ((HM6.out.then mS7 (fun _ _ h => .inl h)).then mS8 (fun _ _ h => .inl h))⟩
         simp only [nv] at hrE hrF
         (intro iA hiA hbA; simp only [List.mem_cons, List.not_mem_nil, or_false] at hiA; rcases hiA with rfl | rfl | rfl | rfl | rfl)
         ·clear hbA
          (refine eff_look (by simp only [zK]; rfl) (by rfl) rfl ?hx32 ?hz32 (by first | exact hl6 | exact hl7) ?n32; (case hx32 => simp only [Act.eval, zM]; try rfl); (case hz32 => simp only [Act.eval, zM]; try rfl); try simp only [Act.put, zL])
          rw [show ([6, 7, 8, 9, 10] : List Nat).erase 6 = [7, 8, 9, 10] from rfl]
          (intro iA hiA hbA; simp only [List.mem_cons, List.not_mem_nil, or_false] at hiA; rcases hiA with rfl | rfl | rfl | rfl)
          ·clear hbA
           (refine eff_value (v := ?v33) (w' := ?w33) (by simp only [zK]; rfl) (by rfl) ?y33 ?n33; (case y33 => (go_simp; (try (first | with_reducible rfl | (constructor <;> with_reducible rfl))))); try simp only [Act.put, zL])
           rw [show ([7, 8, 9, 10] : List Nat).erase 7 = [8, 9, 10] from rfl]
           (intro iA hiA hbA; simp only [List.mem_cons, List.not_mem_nil, or_false] at hiA; rcases hiA with rfl | rfl | rfl)
           ·clear hbA
            (refine eff_entry (by simp only [zK]; rfl) (by rfl) rfl ?hx34 ?hz34 hrE ?n34; (case hx34 => simp only [Act.eval, zM]; try rfl); (case hz34 => simp only [Act.eval, zM]; try rfl); try simp only [Act.put, zL])
            rw [show ([8, 9, 10] : List Nat).erase 8 = [9, 10] from rfl]
            (intro iA hiA hbA; simp only [List.mem_cons, List.not_mem_nil, or_false] at hiA; rcases hiA with rfl | rfl)
            ·clear hbA
             (refine eff_value (v := ?v35) (w' := ?w35) (by simp only [zK]; rfl) (by rfl) ?y35 ?n35; (case y35 => (go_simp; (try (first | with_reducible rfl | (constructor <;> with_reducible rfl))))); try simp only [Act.put, zL])
             rw [show ([9, 10] : List Nat).erase 9 = [10] from rfl]
             (intro iA hiA hbA; simp only [List.mem_cons, List.not_mem_nil, or_false] at hiA; subst hiA)
             ·clear hbA
              (refine eff_estore (by simp only [zK]; rfl) (by rfl) rfl ?hx36 ?hz36 ?hv36 hrF ?n36; (case hx36 => simp only [Act.eval, zM]; try rfl); (case hz36 => simp only [Act.eval, zM]; try rfl); (case hv36 => (simp only [Act.eval, zM]; (try rfl))); try simp only [Act.put, zL])
              rw [show ([10] : List Nat).erase 10 = [] from rfl]
              refine allE_nil ?_
              go_wp2_with fail; go_meet; exact HEND.out
            ·exact no_head (by kernel_rfl) hbA
           ·exact no_head (by kernel_rfl) hbA
           ·exact no_head (by kernel_rfl) hbA
          ·clear hbA
           (refine eff_entry (by simp only [zK]; rfl) (by rfl) rfl ?hx37 ?hz37 hrE ?n37; (case hx37 => simp only [Act.eval, zM]; try rfl); (case hz37 => simp only [Act.eval, zM]; try rfl); try simp only [Act.put, zL])
           rw [show ([7, 8, 9, 10] : List Nat).erase 8 = [7, 9, 10] from rfl]
           (intro iA hiA hbA; simp only [List.mem_cons, List.not_mem_nil, or_false] at hiA; rcases hiA with rfl | rfl | rfl)
           ·clear hbA
            (refine eff_value (v := ?v38) (w' := ?w38) (by simp only [zK]; rfl) (by rfl) ?y38 ?n38; (case y38 => (go_simp; (try (first | with_reducible rfl | (constructor <;> with_reducible rfl))))); try simp only [Act.put, zL])
            rw [show ([7, 9, 10] : List Nat).erase 7 = [9, 10] from rfl]
            (intro iA hiA hbA; simp only [List.mem_cons, List.not_mem_nil, or_false] at hiA; rcases hiA with rfl | rfl)
            ·clear hbA
             (refine eff_value (v := ?v39) (w' := ?w39) (by simp only [zK]; rfl) (by rfl) ?y39 ?n39; (case y39 => (go_simp; (try (first | with_reducible rfl | (constructor <;> with_reducible rfl))))); try simp only [Act.put, zL])
             rw [show ([9, 10] : List Nat).erase 9 = [10] from rfl]
             (intro iA hiA hbA; simp only [List.mem_cons, List.not_mem_nil, or_false] at hiA; subst hiA)
             ·clear hbA
              (refine eff_estore (by simp only [zK]; rfl) (by rfl) rfl ?hx40 ?hz40 ?hv40 hrF ?n40; (case hx40 => simp only [Act.eval, zM]; try rfl); (case hz40 => simp only [Act.eval, zM]; try rfl); (case hv40 => (simp only [Act.eval, zM]; (try rfl))); try simp only [Act.put, zL])
              rw [show ([10] : List Nat).erase 10 = [] from rfl]
              refine allE_nil ?_
              go_wp2_with fail; go_meet; exact HEND.out
            ·exact no_head (by kernel_rfl) hbA
           ·clear hbA
            (refine eff_value (v := ?v41) (w' := ?w41) (by simp only [zK]; rfl) (by rfl) ?y41 ?n41; (case y41 => (go_simp; (try (first | with_reducible rfl | (constructor <;> with_reducible rfl))))); try simp only [Act.put, zL])
            rw [show ([7, 9, 10] : List Nat).erase 9 = [7, 10] from rfl]
            (intro iA hiA hbA; simp only [List.mem_cons, List.not_mem_nil, or_false] at hiA; rcases hiA with rfl | rfl)
            ·clear hbA
             (refine eff_value (v := ?v42) (w' := ?w42) (by simp only [zK]; rfl) (by rfl) ?y42 ?n42; (case y42 => (go_simp; (try (first | with_reducible rfl | (constructor <;> with_reducible rfl))))); try simp only [Act.put, zL])
             rw [show ([7, 10] : List Nat).erase 7 = [10] from rfl]
             (intro iA hiA hbA; simp only [List.mem_cons, List.not_mem_nil, or_false] at hiA; subst hiA)
             ·clear hbA
              (refine eff_estore (by simp only [zK]; rfl) (by rfl) rfl ?hx43 ?hz43 ?hv43 hrF ?n43; (case hx43 => simp only [Act.eval, zM]; try rfl); (case hz43 => simp only [Act.eval, zM]; try rfl); (case hv43 => (simp only [Act.eval, zM]; (try rfl))); try simp only [Act.put, zL])
              rw [show ([10] : List Nat).erase 10 = [] from rfl]
              refine allE_nil ?_
              go_wp2_with fail; go_meet; exact HEND.out
            ·exact no_head (by kernel_rfl) hbA
           ·exact no_head (by kernel_rfl) hbA
          ·exact no_head (by kernel_rfl) hbA
          ·exact no_head (by kernel_rfl) hbA
         ·exact no_head (by kernel_rfl) hbA
         ·clear hbA
          (refine eff_entry (by simp only [zK]; rfl) (by rfl) rfl ?hx44 ?hz44 hrE ?n44; (case hx44 => simp only [Act.eval, zM]; try rfl); (case hz44 => simp only [Act.eval, zM]; try rfl); try simp only [Act.put, zL])
          rw [show ([6, 7, 8, 9, 10] : List Nat).erase 8 = [6, 7, 9, 10] from rfl]
          (intro iA hiA hbA; simp only [List.mem_cons, List.not_mem_nil, or_false] at hiA; rcases hiA with rfl | rfl | rfl | rfl)
          ·clear hbA
           (refine eff_look (by simp only [zK]; rfl) (by rfl) rfl ?hx45 ?hz45 (by first | exact hl6 | exact hl7) ?n45; (case hx45 => simp only [Act.eval, zM]; try rfl); (case hz45 => simp only [Act.eval, zM]; try rfl); try simp only [Act.put, zL])
           rw [show ([6, 7, 9, 10] : List Nat).erase 6 = [7, 9, 10] from rfl]
           (intro iA hiA hbA; simp only [List.mem_cons, List.not_mem_nil, or_false] at hiA; rcases hiA with rfl | rfl | rfl)
           ·clear hbA
            (refine eff_value (v := ?v46) (w' := ?w46) (by simp only [zK]; rfl) (by rfl) ?y46 ?n46; (case y46 => (go_simp; (try (first | with_reducible rfl | (constructor <;> with_reducible rfl))))); try simp only [Act.put, zL])
            rw [show ([7, 9, 10] : List Nat).erase 7 = [9, 10] from rfl]
            (intro iA hiA hbA; simp only [List.mem_cons, List.not_mem_nil, or_false] at hiA; rcases hiA with rfl | rfl)
            ·clear hbA
             (refine eff_value (v := ?v47) (w' := ?w47) (by simp only [zK]; rfl) (by rfl) ?y47 ?n47; (case y47 => (go_simp; (try (first | with_reducible rfl | (constructor <;> with_reducible rfl))))); try simp only [Act.put, zL])
             rw [show ([9, 10] : List Nat).erase 9 = [10] from rfl]
             (intro iA hiA hbA; simp only [List.mem_cons, List.not_mem_nil, or_false] at hiA; subst hiA)
             ·clear hbA
              (refine eff_estore (by simp only [zK]; rfl) (by rfl) rfl ?hx48 ?hz48 ?hv48 hrF ?n48; (case hx48 => simp only [Act.eval, zM]; try rfl); (case hz48 => simp only [Act.eval, zM]; try rfl); (case hv48 => (simp only [Act.eval, zM]; (try rfl))); try simp only [Act.put, zL])
              rw [show ([10] : List Nat).erase 10 = [] from rfl]
              refine allE_nil ?_
              go_wp2_with fail; go_meet; exact HEND.out
            ·exact no_head (by kernel_rfl) hbA
           ·clear hbA
            (refine eff_value (v := ?v49) (w' := ?w49) (by simp only [zK]; rfl) (by rfl) ?y49 ?n49; (case y49 => (go_simp; (try (first | with_reducible rfl | (constructor <;> with_reducible rfl))))); try simp only [Act.put, zL])
            rw [show ([7, 9, 10] : List Nat).erase 9 = [7, 10] from rfl]
            (intro iA hiA hbA; simp only [List.mem_cons, List.not_mem_nil, or_false] at hiA; rcases hiA with rfl | rfl)
            ·clear hbA
             (refine eff_value (v := ?v50) (w' := ?w50) (by simp only [zK]; rfl) (by rfl) ?y50 ?n50; (case y50 => (go_simp; (try (first | with_reducible rfl | (constructor <;> with_reducible rfl))))); try simp only [Act.put, zL])
             rw [show ([7, 10] : List Nat).erase 7 = [10] from rfl]
             (intro iA hiA hbA; simp only [List.mem_cons, List.not_mem_nil, or_false] at hiA; subst hiA)
             ·clear hbA
              (refine eff_estore (by simp only [zK]; rfl) (by rfl) rfl ?hx51 ?hz51 ?hv51 hrF ?n51; (case hx51 => simp only [Act.eval, zM]; try rfl); (case hz51 => simp only [Act.eval, zM]; try rfl); (case hv51 => (simp only [Act.eval, zM]; (try rfl))); try simp only [Act.put, zL])
              rw [show ([10] : List Nat).erase 10 = [] from rfl]
              refine allE_nil ?_
              go_wp2_with fail; go_meet; exact HEND.out
            ·exact no_head (by kernel_rfl) hbA
           ·exact no_head (by kernel_rfl) hbA
          ·exact no_head (by kernel_rfl) hbA
          ·clear hbA
           (refine eff_value (v := ?v52) (w' := ?w52) (by simp only [zK]; rfl) (by rfl) ?y52 ?n52; (case y52 => (go_simp; (try (first | with_reducible rfl | (constructor <;> with_reducible rfl))))); try simp only [Act.put, zL])
           rw [show ([6, 7, 9, 10] : List Nat).erase 9 = [6, 7, 10] from rfl]
           (intro iA hiA hbA; simp only [List.mem_cons, List.not_mem_nil, or_false] at hiA; rcases hiA with rfl | rfl | rfl)
           ·clear hbA
            (refine eff_look (by simp only [zK]; rfl) (by rfl) rfl ?hx53 ?hz53 (by first | exact hl6 | exact hl7) ?n53; (case hx53 => simp only [Act.eval, zM]; try rfl); (case hz53 => simp only [Act.eval, zM]; try rfl); try simp only [Act.put, zL])
            rw [show ([6, 7, 10] : List Nat).erase 6 = [7, 10] from rfl]
            (intro iA hiA hbA; simp only [List.mem_cons, List.not_mem_nil, or_false] at hiA; rcases hiA with rfl | rfl)
            ·clear hbA
             (refine eff_value (v := ?v54) (w' := ?w54) (by simp only [zK]; rfl) (by rfl) ?y54 ?n54; (case y54 => (go_simp; (try (first | with_reducible rfl | (constructor <;> with_reducible rfl))))); try simp only [Act.put, zL])
             rw [show ([7, 10] : List Nat).erase 7 = [10] from rfl]
             (intro iA hiA hbA; simp only [List.mem_cons, List.not_mem_nil, or_false] at hiA; subst hiA)
             ·clear hbA
              (refine eff_estore (by simp only [zK]; rfl) (by rfl) rfl ?hx55 ?hz55 ?hv55 hrF ?n55; (case hx55 => simp only [Act.eval, zM]; try rfl); (case hz55 => simp only [Act.eval, zM]; try rfl); (case hv55 => (simp only [Act.eval, zM]; (try rfl))); try simp only [Act.put, zL])
              rw [show ([10] : List Nat).erase 10 = [] from rfl]
              refine allE_nil ?_
              go_wp2_with fail; go_meet; exact HEND.out
            ·exact no_head (by kernel_rfl) hbA
           ·exact no_head (by kernel_rfl) hbA
           ·exact no_head (by kernel_rfl) hbA
          ·exact no_head (by kernel_rfl) hbA
         ·exact no_head (by kernel_rfl) hbA
         ·exact no_head (by kernel_rfl) hbA
        case rest =>
         obtain ⟨⟨es2, cl2, km2, HMJ⟩, kg2, HMc⟩ := hcut
         have hl17 : (Instr.lookup 148 (.map (some q)) (.agg (kc k)) false).run Tryz.prog wc = .ok (.int .i64 ((c + 1 : Nat) : Int)) wc := by
          have := HMJ.out.lookupD keyTR Tryz.underlying148 (z := 0) nv_zero wc km2 k
          rw [HT1.out, lkp_put_same, zE] at this
          exact this
         clear km kg HEN HLK
         by_cases h0 : c = 0
         ·have hnk : k ∉ rlK (Lf.take i) := HC0.out.1 h0
          have HND2 : Hid (rlK (Lf.take (i + 1))).Nodup := Lib.hid (by
           rw [HKR.out, List.nodup_append]
           refine ⟨HND.out, by simp, fun a ha b hb e => ?_⟩
           rw [List.mem_singleton] at hb
           subst hb
           subst e
           exact hnk ha)
          subst h0
          clear hnk hcb hwr
          obtain ⟨kb, hkb⟩ : ∃ kb, knownP k = kb := ⟨_, rfl⟩
          have HKB := Lib.hid hkb
          clear hkb
          have hst := RowR.step HRi.out HRR.out
          rw [Nat.zero_add] at hst
          have HST := Lib.hid hst
          clear hst
          cases wt with
          | false =>
           have HR2 : Hid (RowR (Ci.setIfInBounds (i * 34 + 33) (.bool false)) ((Lf.take (i + 1)).map fixR ++ Lf.drop (i + 1))) := Lib.hid HST.out
           go_upto_region 19 with fail
           have Lkg2 := lt_size kg2
           have Lkm2 := lt_size km2
           refine wp_pass0 (C := fun _ _ _ => False) (κ := fun i => [0, 0, 0, 0, 0, 0, 1, 0, 0, 0, 0, 0, 1, 0, 0, 0, 0, 0, 5].getD i 0) [0, 1, 2, 3, 4, 5, 6, 7, 8, 9, 10, 11, 12, 13, 14, 15, 16, 17, 18] (by kernel_rfl) (by kernel_rfl) (fun _ _ d _ _ h => by cases d <;> first | exact h | exact absurd h (hP _ _ _)) ?_
           iterate 8 first | (refine TD.val0 (v := ?_) (by simp only [zK]; rfl) rfl (by rfl) (fun w1 => ?_) ?_; rotate_left; (next => go_simp; try with_reducible rfl); try simp only [Act.put, zL]) | (refine TD.load (v := ?_) (p := ?_) (Mod.refl _ _) (by simp only [zK]; rfl) rfl (by rfl) rfl ?_ (fun wq hSq => ?_) ?_; rotate_left 2; (next => simp only [Act.eval, zM]; try rfl); (next => have kg2q := hSq.at kg2 (fun h => h); have km2q := hSq.at km2 (fun h => h); go_simp; try with_reducible rfl); try simp only [Act.put, zL])
           iterate 4 (refine TD.pass (by simp only [zK]; rfl) rfl (by rfl) ?_; try simp only [Act.put, zL])
           (refine TD.pass1 (by simp only [zK]; rfl) rfl (by rfl) ?_; try simp only [Act.put, zL])
           iterate 2 (refine TD.pass (by simp only [zK]; rfl) rfl (by rfl) ?_; try simp only [Act.put, zL])
           iterate 3 (refine TD.val0 (v := ?_) (by simp only [zK]; rfl) rfl (by rfl) (fun w1 => ?_) ?_; rotate_left; (next => go_simp; try with_reducible rfl); try simp only [Act.put, zL])
           refine TD.eff (by simp only [zK]; rfl) rfl (fun wE hr => ?_)
           replace kg2 := hr.mod.at0 kg2
           replace km2 := hr.mod.at0 km2
           have mE := hr.mod
           (refine eff_store (X := ?X74) (Y := ?Y74) (w' := ?w74) (by simp only [zK]; rfl) (by rfl) rfl ?hx74 ?hz74 ?y74 ?n74; (case hx74 => simp only [Act.eval, zM]; try rfl); (case hz74 => simp only [Act.eval, zM]; try rfl); (case y74 => go_simp; try with_reducible rfl))
           (first | refine TE.nil_set kg2 (fun w9 kg2 mS => ?_) | refine TE.nil_setCell kg2 (fun w9 kg2 mS => ?_))
           (try simp only [Array.setIfInBounds, zL] at kg2)
           replace km2 := mS.at_ne km2 (by omega)
           have HM9 : Hid (Mod (fun j => j = q ∨ j = g) w2 w9) := Lib.hid ((HMc.out.then0 mE).then mS (fun j _ e => .inr e))
           clear mE mS hr hl17 c33 he1
           go_wp2_with fail
           go_roundw
           case rel => exact ⟨i + 1, _, by omega, by go_num, ⟨_, _, km2, HMJ⟩, kg2, HR2, HND2, HM9⟩
           case measure => simp [intOf]; omega
          | true =>
           have HR2 : Hid (RowR (Ci.setIfInBounds (i * 34 + 33) (.bool (!kb))) ((Lf.take (i + 1)).map fixR ++ Lf.drop (i + 1))) := Lib.hid (by
            have := HST.out
            simp only [fixR, HKB.out, Bool.true_and] at this
            exact this)
           go_upto_region 19 with fail
           have Lkg2 := lt_size kg2
           have Lkm2 := lt_size km2
           refine wp_pass0 (C := fun _ _ v => v = .bool kb) (κ := fun i => [0, 0, 0, 0, 0, 0, 1, 0, 0, 0, 0, 0, 1, 2, 0, 0, 0, 0, 5].getD i 0) [0, 1, 2, 3, 4, 5, 6, 7, 8, 9, 10, 11, 12, 13, 14, 15, 16, 17, 18] (by kernel_rfl) (by kernel_rfl) (fun _ _ d _ _ h => by cases d <;> first | exact h | exact absurd h (hP _ _ _)) ?_
           iterate 13 first | (refine TD.val0 (v := ?_) (by simp only [zK]; rfl) rfl (by rfl) (fun w1 => ?_) ?_; rotate_left; (next => go_simp; try with_reducible rfl); try simp only [Act.put, zL]) | (refine TD.load (v := ?_) (p := ?_) (Mod.refl _ _) (by simp only [zK]; rfl) rfl (by rfl) rfl ?_ (fun wq hSq => ?_) ?_; rotate_left 2; (next => simp only [Act.eval, zM]; try rfl); (next => have kg2q := hSq.at kg2 (fun h => h); have km2q := hSq.at km2 (fun h => h); go_simp; try with_reducible rfl); try simp only [Act.put, zL])
           (refine TD.call (f := ?f88) (args := ?r88) (Mod.refl _ _) (by simp only [zK]; rfl) rfl (by rfl) (fun w1 => ?y88) ?hsp88 ?n88; (case y88 => (go_simp; (first | with_reducible rfl | (constructor <;> with_reducible rfl)))); (case hsp88 => (intro wq hSq; have kg2q := hSq.at kg2 (fun h => h); have km2q := hSq.at km2 (fun h => h); exact (known_c k wq).mono (fun e w' h => ⟨_, h.1, by rw [HKB.out], h.2⟩))); rintro _ hC; subst hC; try simp only [Act.put, zL])
           iterate 4 (refine TD.val0 (v := ?_) (by simp only [zK]; rfl) rfl (by rfl) (fun w1 => ?_) ?_; rotate_left; (next => go_simp; try with_reducible rfl); try simp only [Act.put, zL])
           refine TD.eff (by simp only [zK]; rfl) rfl (fun wE hr => ?_)
           replace kg2 := hr.mod.at0 kg2
           replace km2 := hr.mod.at0 km2
           have mE := hr.mod
           (refine eff_store (X := ?X93) (Y := ?Y93) (w' := ?w93) (by simp only [zK]; rfl) (by rfl) rfl ?hx93 ?hz93 ?y93 ?n93; (case hx93 => simp only [Act.eval, zM]; try rfl); (case hz93 => simp only [Act.eval, zM]; try rfl); (case y93 => go_simp; try with_reducible rfl))
           (first | refine TE.nil_set kg2 (fun w9 kg2 mS => ?_) | refine TE.nil_setCell kg2 (fun w9 kg2 mS => ?_))
           (try simp only [Array.setIfInBounds, zL] at kg2)
           replace km2 := mS.at_ne km2 (by omega)
           have HM9 : Hid (Mod (fun j => j = q ∨ j = g) w2 w9) := Lib.hid ((HMc.out.then0 mE).then mS (fun j _ e => .inr e))
           clear mE mS hr hl17 c33 he1
           go_wp2_with fail
           go_roundw
           case rel => exact ⟨i + 1, _, by omega, by go_num, ⟨_, _, km2, HMJ⟩, kg2, HR2, HND2, HM9⟩
           case measure => simp [intOf]; omega
         ·have HE : Hid (rolesP (msgP x) LW LR = .error 9) := Lib.hid (by
           have hk : k ∈ rlK (Lf.take i) := by
            by_cases hm : k ∈ rlK (Lf.take i)
            ·exact hm
            ·exact absurd (HC0.out.2 hm) h0
           unfold rolesP
           rw [HLF.out, if_neg]
           intro hd
           have hsub : ((rlK (Lf.take (i + 1))).Sublist (rlK Lf)) := (List.take_sublist _ _).map _
           have h1 := hd.sublist hsub
           rw [HKR.out, List.nodup_append] at h1
           exact h1.2.2 k hk k (by simp) rfl)
          have hd3 : decide (((c + 1 : Nat) : Int) > 1) = true := decide_eq_true (by omega)
          have HFm : Hid (Mod (fun _ => False) w wc) := Lib.hid (HM2.out.then HMc.out (fun j hj e => by have := HNN.out; omega))
          generalize c + 1 = d at *
          go_wp2_with fail
          refine bodyPost_ret (results_tmp2 rfl _ _ _) rfl ?_
          unfold RolA
          rw [HE.out]
          exact ⟨HFm.out, rfl⟩
       ·have hd := decide_eq_false hlt
        obtain rfl : n = i := by omega
        have HE : Hid (rolesP (msgP x) LW LR = .ok (Lf.map fixR)) := Lib.hid (by
         have h1 := HND.out
         rw [List.take_of_length_le (by have := HNN.out; omega)] at h1
         unfold rolesP
         rw [HLF.out]
         unfold rlK at h1
         rw [if_pos h1]
         rfl)
        have HNW : Hid (NewS rcr 34 91 w.heap.size wr (.slice (some ⟨g, 0, none⟩) n n) (Lf.map fixR)) := Lib.hid (by
         have h1 := HRi.out
         rw [List.take_of_length_le (by have := HNN.out; omega), List.drop_of_length_le (by have := HNN.out; omega), List.append_nil] at h1
         refine .inr ⟨g, Ci, by rw [List.length_map, HNN.out.1], HNN.out.2.1, kg, fun j y hy => ?_⟩
         have h2 := h1 j y hy
         rwa [Nat.zero_add] at h2)
        have HF : Hid (Mod (fun _ => False) w wr) := Lib.hid (HM2.out.then HMl.out (fun j hj e => by have := HNN.out; omega))
        have HCL := Lib.hid (fun w => sl_clip (P := Tryz.prog) rolesT (g := g) (o := 0) (show n ≤ cap from HNN.out.2.2) w)
        clear km kg
        go_wp2_with fail
        go_at_call 89
        refine (clipRo_c _ _ n HCL.out).mono ?_
        rintro e w5 ⟨rfl, rfl⟩
        go_wp2_with fail
        refine bodyPost_ret (results_tmp2 rfl _ _ _) rfl ?_
        unfold RolA
        rw [HE.out]
        exact ⟨HF.out, _, rfl, HNW.out⟩
end Go.Proofs.YtiaehkkkcaeaiaaGreatDoor
