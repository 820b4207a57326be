/- The lemmas of the proof, part 6: how the program and its data lie in memory, and what its functions do. -/
import Derived.Test.YtdeghpmlhcaedaaGreatDoorK5
set_option linter.unusedSimpArgs false
set_option linter.unusedVariables false
set_option linter.unusedSectionVars false
namespace Go.Proofs.YtdeghpmlhcaedaaGreatDoor
open Go.RowKit Go.Sort
open Go.ChangeMaps (setBlock)
attribute [local go_sem ↓] wlDq ldDq stDq
attribute [local go_sem] cell_blk frozen_blk one_int one_bool one_ptr one_slice one_map Value.cells dqv_size dqv_all dqv_one dqv_one' zDq_size dqv_0 dqv_1 dqv_2 dqv_3 dqv_4
section
variable {α : Type} {f : α → Array Value} {n B : Nat} {P : Program} {T E : TypeId}
theorem cellsOf_cell (hs : ∀ x, (f x).size = n) : ∀ {l : List α} {q j : Nat} {x y : α} {v : Value}, l[q]? = some x → j < n → (f x).setIfInBounds j v = f y → cellsOf f (l.set q y) = (cellsOf f l).set (q * n + j) v
 | [], q, j, x, y, v, h, _, _ => by cases h
 | a :: r, 0, j, x, y, v, h, hj, hy => by
  cases h
  rw [Nat.zero_mul, Nat.zero_add]
  show (f y).toList ++ cellsOf f r = ((f a).toList ++ cellsOf f r).set j v
  rw [List.set_append_left _ _ (by rw [Array.length_toList, hs]; exact hj), ← hy, Array.toList_setIfInBounds]
 | a :: r, q + 1, j, x, y, v, h, hj, hy => by
  have ih := cellsOf_cell hs (l := r) (q := q) (v := v) (by simpa using h) hj hy
  show (f a).toList ++ cellsOf f (r.set q y) = ((f a).toList ++ cellsOf f r).set _ v
  rw [List.set_append_right _ _ (by rw [Array.length_toList, hs, Nat.add_mul]; omega), ih, Array.length_toList, hs, show (q + 1) * n + j - n = q * n + j by rw [Nat.add_mul]; omega]
theorem SlOwn.row1 (hT : ElT P T E f n B) {w : World} {base : Nat} {v : Value} {l : List α} (h : SlOwn f n E w base v l) {q : Nat} {x : α} (hx : l[q]? = some x) : ∃ g cap C, v = .slice (some ⟨g, 0, none⟩) l.length cap ∧ base ≤ g ∧ w.heap[g]? = some (.cells C E (0, 0)) ∧ C.extract (q * n) (q * n + n) = f x ∧ q * n + n ≤ C.size := by
 rcases h.2 with ⟨rfl, hn⟩ | ⟨g, cap, cur, e, hb, hg, hnc, hcm, hcs, htake⟩
 ·have : l = [] := List.eq_nil_of_length_eq_zero hn
  subst this
  cases hx
 ·subst e
  obtain ⟨a2, c2, e, hat, _⟩ := h.at hT
  injection e with e1 _ _
  subst e1
  obtain ⟨b2, o2, C2, U2, fr2, e2, hb2, he, hle⟩ := hat.block hx
  cases e2
  rw [hg] at hb2
  cases hb2
  exact ⟨g, cap, cur, rfl, hb, hg, by simpa using he, by simpa using hle⟩
theorem SlOwn.cell (hT : ElT P T E f n B) {w w' : World} {base g m cap : Nat} {l : List α} {C : Array Value} (h : SlOwn f n E w base (.slice (some ⟨g, 0, none⟩) m cap) l) (hg : w.heap[g]? = some (.cells C E (0, 0))) {q j : Nat} {x y : α} {v : Value} (hx : l[q]? = some x) (hj : j < n) (hy : (f x).setIfInBounds j v = f y)
  (hg' : w'.heap[g]? = some (.cells (C.setIfInBounds (q * n + j) v) E (0, 0))) : SlOwn f n E w' base (.slice (some ⟨g, 0, none⟩) m cap) (l.set q y) := by
 have hlen : (l.set q y).length = l.length := List.length_set
 rcases h.2 with ⟨e, _⟩ | ⟨g2, cap2, cur, e, hb, hg2, hnc, hcm, hcs, htake⟩
 ·cases e
 ·injection e with e1 e2 e3
  injection e1 with e1
  injection e1 with e1
  subst e1
  subst e2
  subst e3
  rw [hg] at hg2
  cases hg2
  have hc := cellsOf_cell hT.size hx hj hy
  refine ⟨by rw [hc, List.length_set, hlen]; exact h.1, .inr ⟨g, cap, _, by rw [hlen], hb, hg', by rw [hlen]; exact hnc, hcm, by rw [Array.size_setIfInBounds]; exact hcs, ?_⟩⟩
  rw [hlen, Array.toList_setIfInBounds, List.take_set, htake, hc]
end
section
variable {r n : Nat} {S : List (Option It)} {T : Nat → Prop} {w : World}
theorem qatY (h : RQ r n (docL 0 S) T w) (hS : S.length ≤ 4096) {i : Nat} {x : It} (hx : S[i]? = some (some x)) : Calls Tryz.prog 56 #[ptrV r, .int .i64 (i : Int)] w fun e w' => e = .returned (.int .i64 (posD S i : Int)) ∧ Mod (fun _ => False) w w' :=
 (qat_c h (i : Int) (by rw [docL_len]; exact Nat.le_trans List.countP_le_length hS)).mono fun e w' h1 => by
  obtain ⟨h1, h2⟩ := h1
  refine ⟨?_, h2⟩
  rcases h1 with ⟨q, y, rfl, hq, hi⟩ | ⟨_, hno⟩
  ·obtain ⟨_, _, _, hp⟩ := docL_pos hq
   rw [hp, show y.id = i by omega]
  ·exact absurd rfl (hno _ (List.mem_of_getElem? (docL_at hx)))
theorem qatN (h : RQ r n (docL 0 S) T w) (hS : S.length ≤ 4096) {id : Int} (ha : AwayS S id) : Calls Tryz.prog 56 #[ptrV r, .int .i64 id] w fun e w' => e = .returned (.int .i64 (-1)) ∧ Mod (fun _ => False) w w' :=
 (qat_c h id (by rw [docL_len]; exact Nat.le_trans List.countP_le_length hS)).mono fun e w' h1 => by
  obtain ⟨h1, h2⟩ := h1
  refine ⟨?_, h2⟩
  rcases h1 with ⟨q, y, rfl, hq, hi⟩ | ⟨h1, _⟩
  ·exfalso
   obtain ⟨x, hx, _⟩ := docL_pos hq
   have hl := (List.getElem?_eq_some_iff.1 hx).1
   rcases ha with ha | ha | ha
   ·omega
   ·omega
   ·rw [← hi, Int.toNat_natCast, hx] at ha
    cases ha
  ·exact h1
theorem qbackN_c (h : RQ r n (docL 0 S) T w) (hS : S.length ≤ 4096) {id : Int} (ha : AwayS S id) : Calls Tryz.prog 22 #[ptrV r, .int .i64 id] w fun e w' => e = .returned (.int .i64 11) ∧ Mod (fun _ => False) w w' := by
 have H := Lib.hid (And.intro h (And.intro hS ha))
 clear h hS ha
 go_enter Tryz.func22, Tryz.ntmps22
 go_wp2_with fail
 go_at_call 56
 refine (qatN H.out.1 H.out.2.1 H.out.2.2).mono ?_
 rintro e w1 ⟨rfl, m1⟩
 go_wp2_with fail
 go_ret
 exact ⟨rfl, m1⟩
theorem qparkN_c (h : RQ r n (docL 0 S) T w) (hS : S.length ≤ 4096) {id : Int} (ha : AwayS S id) : Calls Tryz.prog 23 #[ptrV r, .int .i64 id] w fun e w' => e = .returned (.int .i64 11) ∧ Mod (fun _ => False) w w' := by
 have H := Lib.hid (And.intro h (And.intro hS ha))
 clear h hS ha
 go_enter Tryz.func23, Tryz.ntmps23
 go_wp2_with fail
 go_at_call 56
 refine (qatN H.out.1 H.out.2.1 H.out.2.2).mono ?_
 rintro e w1 ⟨rfl, m1⟩
 go_wp2_with fail
 go_ret
 exact ⟨rfl, m1⟩
theorem qdoneN_c (h : RQ r n (docL 0 S) T w) (hS : S.length ≤ 4096) {id : Int} (ha : AwayS S id) : Calls Tryz.prog 25 #[ptrV r, .int .i64 id] w fun e w' => e = .returned (.int .i64 11) ∧ Mod (fun _ => False) w w' := by
 have H := Lib.hid (And.intro h (And.intro hS ha))
 clear h hS ha
 go_enter Tryz.func25, Tryz.ntmps25
 go_wp2_with fail
 go_at_call 56
 refine (qatN H.out.1 H.out.2.1 H.out.2.2).mono ?_
 rintro e w1 ⟨rfl, m1⟩
 go_wp2_with fail
 go_ret
 exact ⟨rfl, m1⟩
theorem qsendN_c (h : RQ r n (docL 0 S) T w) (hS : S.length ≤ 4096) {id : Int} (ha : AwayS S id) : Calls Tryz.prog 27 #[ptrV r, .int .i64 id] w fun e w' => e = .returned (.int .i64 11) ∧ Mod (fun _ => False) w w' := by
 have H := Lib.hid (And.intro h (And.intro hS ha))
 clear h hS ha
 go_enter Tryz.func27, Tryz.ntmps27
 go_wp2_with fail
 go_at_call 56
 refine (qatN H.out.1 H.out.2.1 H.out.2.2).mono ?_
 rintro e w1 ⟨rfl, m1⟩
 go_wp2_with fail
 go_ret
 exact ⟨rfl, m1⟩
set_option maxHeartbeats 1600000 in
theorem qbackW_c (h : RQ r n (docL 0 S) T w) (hS : S.length ≤ 4096) {i : Nat} {x : It} (hx : S[i]? = some (some x)) (hp : x.pl = 0) : Calls Tryz.prog 22 #[ptrV r, .int .i64 (i : Int)] w fun e w' => e = .returned (.int .i64 23) ∧ Mod (fun _ => False) w w' := by
 have hde : (((dOf i x).pl : Int) == 0) = true := by show ((x.pl : Int) == 0) = true; rw [hp]; rfl
 clear hp
 have hlen : (docL 0 S).length ≤ 4096 := by rw [docL_len]; exact Nat.le_trans List.countP_le_length hS
 have hq0 := docL_at hx
 have H := Lib.hid (And.intro h (And.intro hS (And.intro hx hq0)))
 obtain ⟨v, kr, hO, hTr, hTv⟩ := h
 obtain ⟨g, cap, C, rfl, _, kl, he, hle⟩ := hO.row1 dqT hq0
 obtain ⟨p0, p1, p2, p3, p4⟩ := dq_part he
 have hql := (List.getElem?_eq_some_iff.1 hq0).1
 have HO := Lib.hid (And.intro hO (And.intro hTr (And.intro (hTv g rfl) hTv)))
 have hrg : g ≠ r := fun e => by rw [e, kr] at kl; cases kl
 clear hO hTr hTv hx hq0 he
 obtain ⟨q, hq⟩ : ∃ q, posD S i = q := ⟨_, rfl⟩
 obtain ⟨nl, hnl⟩ : ∃ nl, (docL 0 S).length = nl := ⟨_, rfl⟩
 rw [hq] at p0 p1 p2 p3 p4 hql hle
 rw [hnl] at kr hlen hql
 have HQ := Lib.hid (And.intro hq hnl)
 have HK := Lib.hid kl
 clear hq hnl
 go_enter Tryz.func22, Tryz.ntmps22
 go_wp2_with fail
 go_at_call 56
 refine (qatY H.out.1 H.out.2.1 H.out.2.2.1).mono ?_
 rintro e w1 ⟨rfl, m1⟩
 rw [HQ.out.1]
 replace kr := m1.at0 kr
 replace kl := m1.at0 kl
 have hq0 : ¬ ((q : Int) < 0) := by omega
 go_wp2_with fail
 go_ret
 exact ⟨rfl, m1⟩
set_option maxHeartbeats 1600000 in
theorem qbackY_c (h : RQ r n (docL 0 S) T w) (hS : S.length ≤ 4096) {i : Nat} {x : It} (hx : S[i]? = some (some x)) (hp : x.pl ≠ 0) : Calls Tryz.prog 22 #[ptrV r, .int .i64 (i : Int)] w fun e w' => e = .returned (.int .i64 0) ∧ RQ r n (docL 0 (S.set i (some { x with pl := 0 }))) T w' ∧ Mod T w w' := by
 have hde : (((dOf i x).pl : Int) == 0) = false := by show ((x.pl : Int) == 0) = false; rw [beq_eq_false_iff_ne]; omega
 clear hp
 have hlen : (docL 0 S).length ≤ 4096 := by rw [docL_len]; exact Nat.le_trans List.countP_le_length hS
 have hq0 := docL_at hx
 have H := Lib.hid (And.intro h (And.intro hS (And.intro hx hq0)))
 obtain ⟨v, kr, hO, hTr, hTv⟩ := h
 obtain ⟨g, cap, C, rfl, _, kl, he, hle⟩ := hO.row1 dqT hq0
 obtain ⟨p0, p1, p2, p3, p4⟩ := dq_part he
 have hql := (List.getElem?_eq_some_iff.1 hq0).1
 have HO := Lib.hid (And.intro hO (And.intro hTr (And.intro (hTv g rfl) hTv)))
 have hrg : g ≠ r := fun e => by rw [e, kr] at kl; cases kl
 clear hO hTr hTv hx hq0 he
 obtain ⟨q, hq⟩ : ∃ q, posD S i = q := ⟨_, rfl⟩
 obtain ⟨nl, hnl⟩ : ∃ nl, (docL 0 S).length = nl := ⟨_, rfl⟩
 rw [hq] at p0 p1 p2 p3 p4 hql hle
 rw [hnl] at kr hlen hql
 have HQ := Lib.hid (And.intro hq hnl)
 have HK := Lib.hid kl
 clear hq hnl
 go_enter Tryz.func22, Tryz.ntmps22
 go_wp2_with fail
 go_at_call 56
 refine (qatY H.out.1 H.out.2.1 H.out.2.2.1).mono ?_
 rintro e w1 ⟨rfl, m1⟩
 rw [HQ.out.1]
 replace kr := m1.at0 kr
 replace kl := m1.at0 kl
 have hq0 : ¬ ((q : Int) < 0) := by omega
 go_upto_region 6 with fail
 have Lkr := lt_size kr
 have Lkl := lt_size kl
 refine wp_pass0 (C := fun _ _ _ => False) (κ := fun i => [0, 0, 0, 1, 0, 0, 0, 5].getD i 0) [0, 1, 2, 3, 4, 5, 6, 7] (by kernel_rfl) (by kernel_rfl) (fun _ _ d _ _ h => by cases d <;> first | exact h | exact absurd h (hP _ _ _)) ?_
 (refine TD.val0 (v := ?v1) (by simp only [zK]; rfl) rfl (by rfl) (fun w1 => ?y1) ?n1; (case y1 => go_simp; try with_reducible rfl); try simp only [Act.put, zL])
 (refine TD.val0 (v := ?v2) (by simp only [zK]; rfl) rfl (by rfl) (fun w1 => ?y2) ?n2; (case y2 => go_simp; try with_reducible rfl); try simp only [Act.put, zL])
 (refine TD.val0 (v := ?v3) (by simp only [zK]; rfl) rfl (by rfl) (fun w1 => ?y3) ?n3; (case y3 => go_simp; try with_reducible rfl); try simp only [Act.put, zL])
 (refine TD.load (v := ?v4) (p := ?p4) (Mod.refl _ _) (by simp only [zK]; rfl) rfl (by rfl) rfl ?hx4 (fun wq hSq => ?y4) ?n4; (case hx4 => simp only [Act.eval, zM]; try rfl); (case y4 => (have krq := hSq.at kr (fun h => h); have klq := hSq.at kl (fun h => h); go_simp; (try with_reducible rfl))); try simp only [Act.put, zL])
 (refine TD.val0 (v := ?v5) (by simp only [zK]; rfl) rfl (by rfl) (fun w1 => ?y5) ?n5; (case y5 => go_simp; try with_reducible rfl); try simp only [Act.put, zL])
 (refine TD.val0 (v := ?v6) (by simp only [zK]; rfl) rfl (by rfl) (fun w1 => ?y6) ?n6; (case y6 => go_simp; try with_reducible rfl); try simp only [Act.put, zL])
 (refine TD.val0 (v := ?v7) (by simp only [zK]; rfl) rfl (by rfl) (fun w1 => ?y7) ?n7; (case y7 => go_simp; try with_reducible rfl); try simp only [Act.put, zL])
 refine TD.eff (by simp only [zK]; rfl) rfl (fun wE hr => ?_)
 have kr := hr.mod.at0 kr
 have kl := hr.mod.at0 kl
 have mE := hr.mod
 (refine eff_store (X := ?X8) (Y := ?Y8) (w' := ?w8) (by simp only [zK]; rfl) (by rfl) rfl ?hx8 ?hz8 ?y8 ?n8; (case hx8 => simp only [Act.eval, zM]; try rfl); (case hz8 => simp only [Act.eval, zM]; try rfl); (case y8 => go_simp; try with_reducible rfl))
 (first | refine TE.nil_set kl (fun w6 kl mS => ?_) | refine TE.nil_setCell kl (fun w6 kl mS => ?_))
 (try simp only [Array.setIfInBounds, zL] at kl)
 have kr := mS.at_ne kr (by omega)
 have m6 := m1.then0 mE
 have HF : Hid (SlOwn dqv 5 86 w6 0 (.slice (some ⟨g, 0, none⟩) nl cap) (docL 0 (S.set i (some { x with pl := 0 })))) := Lib.hid (by
  rw [docL_set H.out.2.2.1, HQ.out.1]
  have h1 := HO.out.1.mod0 m6
  rw [HQ.out.2] at h1
  have h2 := H.out.2.2.2
  rw [HQ.out.1] at h2
  exact h1.cell dqT (m6.at0 HK.out) h2 (by decide) rfl kl)
 have HM : Hid (Mod T w w6) := Lib.hid ((m6.mono (fun _ _ e => e.elim)).trans (mS.mono (fun j _ e => by rw [e]; exact HO.out.2.2.1)))
 clear mE mS m6 kl p0 p1 p2 p3 p4
 go_wp2_with fail
 go_ret
 exact ⟨rfl, ⟨_, kr, HF.out, HO.out.2.1, HO.out.2.2.2⟩, HM.out⟩
set_option maxHeartbeats 1600000 in
theorem qparkW_c (h : RQ r n (docL 0 S) T w) (hS : S.length ≤ 4096) {i : Nat} {x : It} (hx : S[i]? = some (some x)) (hp : x.pl ≠ 1) : Calls Tryz.prog 23 #[ptrV r, .int .i64 (i : Int)] w fun e w' => e = .returned (.int .i64 23) ∧ Mod (fun _ => False) w w' := by
 have hde : (((dOf i x).pl : Int) == 1) = false := by show ((x.pl : Int) == 1) = false; rw [beq_eq_false_iff_ne]; omega
 have hde2 : (((dOf i x).pl : Int) != 1) = true := by show ((x.pl : Int) != 1) = true; rw [bne_iff_ne]; omega
 clear hp
 have hlen : (docL 0 S).length ≤ 4096 := by rw [docL_len]; exact Nat.le_trans List.countP_le_length hS
 have hq0 := docL_at hx
 have H := Lib.hid (And.intro h (And.intro hS (And.intro hx hq0)))
 obtain ⟨v, kr, hO, hTr, hTv⟩ := h
 obtain ⟨g, cap, C, rfl, _, kl, he, hle⟩ := hO.row1 dqT hq0
 obtain ⟨p0, p1, p2, p3, p4⟩ := dq_part he
 have hql := (List.getElem?_eq_some_iff.1 hq0).1
 have HO := Lib.hid (And.intro hO (And.intro hTr (And.intro (hTv g rfl) hTv)))
 have hrg : g ≠ r := fun e => by rw [e, kr] at kl; cases kl
 clear hO hTr hTv hx hq0 he
 obtain ⟨q, hq⟩ : ∃ q, posD S i = q := ⟨_, rfl⟩
 obtain ⟨nl, hnl⟩ : ∃ nl, (docL 0 S).length = nl := ⟨_, rfl⟩
 rw [hq] at p0 p1 p2 p3 p4 hql hle
 rw [hnl] at kr hlen hql
 have HQ := Lib.hid (And.intro hq hnl)
 have HK := Lib.hid kl
 clear hq hnl
 go_enter Tryz.func23, Tryz.ntmps23
 go_wp2_with fail
 go_at_call 56
 refine (qatY H.out.1 H.out.2.1 H.out.2.2.1).mono ?_
 rintro e w1 ⟨rfl, m1⟩
 rw [HQ.out.1]
 replace kr := m1.at0 kr
 replace kl := m1.at0 kl
 have hq0 : ¬ ((q : Int) < 0) := by omega
 go_wp2_with fail
 go_ret
 exact ⟨rfl, m1⟩
set_option maxHeartbeats 1600000 in
theorem qparkY_c (h : RQ r n (docL 0 S) T w) (hS : S.length ≤ 4096) {i : Nat} {x : It} (hx : S[i]? = some (some x)) (hp : x.pl = 1) : Calls Tryz.prog 23 #[ptrV r, .int .i64 (i : Int)] w fun e w' => e = .returned (.int .i64 0) ∧ RQ r n (docL 0 (S.set i (some { x with pl := 2 }))) T w' ∧ Mod T w w' := by
 have hde : (((dOf i x).pl : Int) == 1) = true := by show ((x.pl : Int) == 1) = true; rw [hp]; rfl
 have hde2 : (((dOf i x).pl : Int) != 1) = false := by show ((x.pl : Int) != 1) = false; rw [hp]; rfl
 clear hp
 have hlen : (docL 0 S).length ≤ 4096 := by rw [docL_len]; exact Nat.le_trans List.countP_le_length hS
 have hq0 := docL_at hx
 have H := Lib.hid (And.intro h (And.intro hS (And.intro hx hq0)))
 obtain ⟨v, kr, hO, hTr, hTv⟩ := h
 obtain ⟨g, cap, C, rfl, _, kl, he, hle⟩ := hO.row1 dqT hq0
 obtain ⟨p0, p1, p2, p3, p4⟩ := dq_part he
 have hql := (List.getElem?_eq_some_iff.1 hq0).1
 have HO := Lib.hid (And.intro hO (And.intro hTr (And.intro (hTv g rfl) hTv)))
 have hrg : g ≠ r := fun e => by rw [e, kr] at kl; cases kl
 clear hO hTr hTv hx hq0 he
 obtain ⟨q, hq⟩ : ∃ q, posD S i = q := ⟨_, rfl⟩
 obtain ⟨nl, hnl⟩ : ∃ nl, (docL 0 S).length = nl := ⟨_, rfl⟩
 rw [hq] at p0 p1 p2 p3 p4 hql hle
 rw [hnl] at kr hlen hql
 have HQ := Lib.hid (And.intro hq hnl)
 have HK := Lib.hid kl
 clear hq hnl
 go_enter Tryz.func23, Tryz.ntmps23
 go_wp2_with fail
 go_at_call 56
 refine (qatY H.out.1 H.out.2.1 H.out.2.2.1).mono ?_
 rintro e w1 ⟨rfl, m1⟩
 rw [HQ.out.1]
 replace kr := m1.at0 kr
 replace kl := m1.at0 kl
 have hq0 : ¬ ((q : Int) < 0) := by omega
 go_upto_region 6 with fail
 have Lkr := lt_size kr
 have Lkl := lt_size kl
 refine wp_pass0 (C := fun _ _ _ => False) (κ := fun i => [0, 0, 0, 1, 0, 0, 0, 5].getD i 0) [0, 1, 2, 3, 4, 5, 6, 7] (by kernel_rfl) (by kernel_rfl) (fun _ _ d _ _ h => by cases d <;> first | exact h | exact absurd h (hP _ _ _)) ?_
 (refine TD.val0 (v := ?v9) (by simp only [zK]; rfl) rfl (by rfl) (fun w1 => ?y9) ?n9; (case y9 => go_simp; try with_reducible rfl); try simp only [Act.put, zL])
 (refine TD.val0 (v := ?v10) (by simp only [zK]; rfl) rfl (by rfl) (fun w1 => ?y10) ?n10; (case y10 => go_simp; try with_reducible rfl); try simp only [Act.put, zL])
 (refine TD.val0 (v := ?v11) (by simp only [zK]; rfl) rfl (by rfl) (fun w1 => ?y11) ?n11; (case y11 => go_simp; try with_reducible rfl); try simp only [Act.put, zL])
 (refine TD.load (v := ?v12) (p := ?p12) (Mod.refl _ _) (by simp only [zK]; rfl) rfl (by rfl) rfl ?hx12 (fun wq hSq => ?y12) ?n12; (case hx12 => simp only [Act.eval, zM]; try rfl); (case y12 => (have krq := hSq.at kr (fun h => h); have klq := hSq.at kl (fun h => h); go_simp; (try with_reducible rfl))); try simp only [Act.put, zL])
 (refine TD.val0 (v := ?v13) (by simp only [zK]; rfl) rfl (by rfl) (fun w1 => ?y13) ?n13; (case y13 => go_simp; try with_reducible rfl); try simp only [Act.put, zL])
 (refine TD.val0 (v := ?v14) (by simp only [zK]; rfl) rfl (by rfl) (fun w1 => ?y14) ?n14; (case y14 => go_simp; try with_reducible rfl); try simp only [Act.put, zL])
 (refine TD.val0 (v := ?v15) (by simp only [zK]; rfl) rfl (by rfl) (fun w1 => ?y15) ?n15; (case y15 => go_simp; try with_reducible rfl); try simp only [Act.put, zL])
 refine TD.eff (by simp only [zK]; rfl) rfl (fun wE hr => ?_)
 have kr := hr.mod.at0 kr
 have kl := hr.mod.at0 kl
 have mE := hr.mod
 (refine eff_store (X := ?X16) (Y := ?Y16) (w' := ?w16) (by simp only [zK]; rfl) (by rfl) rfl ?hx16 ?hz16 ?y16 ?n16; (case hx16 => simp only [Act.eval, zM]; try rfl); (case hz16 => simp only [Act.eval, zM]; try rfl); (case y16 => go_simp; try with_reducible rfl))
 (first | refine TE.nil_set kl (fun w6 kl mS => ?_) | refine TE.nil_setCell kl (fun w6 kl mS => ?_))
 (try simp only [Array.setIfInBounds, zL] at kl)
 have kr := mS.at_ne kr (by omega)
 have m6 := m1.then0 mE
 have HF : Hid (SlOwn dqv 5 86 w6 0 (.slice (some ⟨g, 0, none⟩) nl cap) (docL 0 (S.set i (some { x with pl := 2 })))) := Lib.hid (by
  rw [docL_set H.out.2.2.1, HQ.out.1]
  have h1 := HO.out.1.mod0 m6
  rw [HQ.out.2] at h1
  have h2 := H.out.2.2.2
  rw [HQ.out.1] at h2
  exact h1.cell dqT (m6.at0 HK.out) h2 (by decide) rfl kl)
 have HM : Hid (Mod T w w6) := Lib.hid ((m6.mono (fun _ _ e => e.elim)).trans (mS.mono (fun j _ e => by rw [e]; exact HO.out.2.2.1)))
 clear mE mS m6 kl p0 p1 p2 p3 p4
 go_wp2_with fail
 go_ret
 exact ⟨rfl, ⟨_, kr, HF.out, HO.out.2.1, HO.out.2.2.2⟩, HM.out⟩
set_option maxHeartbeats 1600000 in
theorem qsendY_c (h : RQ r n (docL 0 S) T w) (hS : S.length ≤ 4096) {i : Nat} {x : It} (hx : S[i]? = some (some x)) : Calls Tryz.prog 27 #[ptrV r, .int .i64 (i : Int)] w fun e w' => e = .returned (.int .i64 0) ∧ RQ r n (docL 0 (S.set i (some { x with sent := true }))) T w' ∧ Mod T w w' := by
 have hlen : (docL 0 S).length ≤ 4096 := by rw [docL_len]; exact Nat.le_trans List.countP_le_length hS
 have hq0 := docL_at hx
 have H := Lib.hid (And.intro h (And.intro hS (And.intro hx hq0)))
 obtain ⟨v, kr, hO, hTr, hTv⟩ := h
 obtain ⟨g, cap, C, rfl, _, kl, he, hle⟩ := hO.row1 dqT hq0
 obtain ⟨p0, p1, p2, p3, p4⟩ := dq_part he
 have hql := (List.getElem?_eq_some_iff.1 hq0).1
 have HO := Lib.hid (And.intro hO (And.intro hTr (And.intro (hTv g rfl) hTv)))
 have hrg : g ≠ r := fun e => by rw [e, kr] at kl; cases kl
 clear hO hTr hTv hx hq0 he
 obtain ⟨q, hq⟩ : ∃ q, posD S i = q := ⟨_, rfl⟩
 obtain ⟨nl, hnl⟩ : ∃ nl, (docL 0 S).length = nl := ⟨_, rfl⟩
 rw [hq] at p0 p1 p2 p3 p4 hql hle
 rw [hnl] at kr hlen hql
 have HQ := Lib.hid (And.intro hq hnl)
 have HK := Lib.hid kl
 clear hq hnl
 go_enter Tryz.func27, Tryz.ntmps27
 go_wp2_with fail
 go_at_call 56
 refine (qatY H.out.1 H.out.2.1 H.out.2.2.1).mono ?_
 rintro e w1 ⟨rfl, m1⟩
 rw [HQ.out.1]
 replace kr := m1.at0 kr
 replace kl := m1.at0 kl
 have hq0 : ¬ ((q : Int) < 0) := by omega
 go_upto_region 4 with fail
 have Lkr := lt_size kr
 have Lkl := lt_size kl
 refine wp_pass0 (C := fun _ _ _ => False) (κ := fun i => [0, 0, 0, 1, 0, 0, 0, 5].getD i 0) [0, 1, 2, 3, 4, 5, 6, 7] (by kernel_rfl) (by kernel_rfl) (fun _ _ d _ _ h => by cases d <;> first | exact h | exact absurd h (hP _ _ _)) ?_
 (refine TD.val0 (v := ?v17) (by simp only [zK]; rfl) rfl (by rfl) (fun w1 => ?y17) ?n17; (case y17 => go_simp; try with_reducible rfl); try simp only [Act.put, zL])
 (refine TD.val0 (v := ?v18) (by simp only [zK]; rfl) rfl (by rfl) (fun w1 => ?y18) ?n18; (case y18 => go_simp; try with_reducible rfl); try simp only [Act.put, zL])
 (refine TD.val0 (v := ?v19) (by simp only [zK]; rfl) rfl (by rfl) (fun w1 => ?y19) ?n19; (case y19 => go_simp; try with_reducible rfl); try simp only [Act.put, zL])
 (refine TD.load (v := ?v20) (p := ?p20) (Mod.refl _ _) (by simp only [zK]; rfl) rfl (by rfl) rfl ?hx20 (fun wq hSq => ?y20) ?n20; (case hx20 => simp only [Act.eval, zM]; try rfl); (case y20 => (have krq := hSq.at kr (fun h => h); have klq := hSq.at kl (fun h => h); go_simp; (try with_reducible rfl))); try simp only [Act.put, zL])
 (refine TD.val0 (v := ?v21) (by simp only [zK]; rfl) rfl (by rfl) (fun w1 => ?y21) ?n21; (case y21 => go_simp; try with_reducible rfl); try simp only [Act.put, zL])
 (refine TD.val0 (v := ?v22) (by simp only [zK]; rfl) rfl (by rfl) (fun w1 => ?y22) ?n22; (case y22 => go_simp; try with_reducible rfl); try simp only [Act.put, zL])
 (refine TD.val0 (v := ?v23) (by simp only [zK]; rfl) rfl (by rfl) (fun w1 => ?y23) ?n23; (case y23 => go_simp; try with_reducible rfl); try simp only [Act.put, zL])
 refine TD.eff (by simp only [zK]; rfl) rfl (fun wE hr => ?_)
 have kr := hr.mod.at0 kr
 have kl := hr.mod.at0 kl
 have mE := hr.mod
 (refine eff_store (X := ?X24) (Y := ?Y24) (w' := ?w24) (by simp only [zK]; rfl) (by rfl) rfl ?hx24 ?hz24 ?y24 ?n24; (case hx24 => simp only [Act.eval, zM]; try rfl); (case hz24 => simp only [Act.eval, zM]; try rfl); (case y24 => go_simp; try with_reducible rfl))
 (first | refine TE.nil_set kl (fun w6 kl mS => ?_) | refine TE.nil_setCell kl (fun w6 kl mS => ?_))
 (try simp only [Array.setIfInBounds, zL] at kl)
 have kr := mS.at_ne kr (by omega)
 have m6 := m1.then0 mE
 have HF : Hid (SlOwn dqv 5 86 w6 0 (.slice (some ⟨g, 0, none⟩) nl cap) (docL 0 (S.set i (some { x with sent := true })))) := Lib.hid (by
  rw [docL_set H.out.2.2.1, HQ.out.1]
  have h1 := HO.out.1.mod0 m6
  rw [HQ.out.2] at h1
  have h2 := H.out.2.2.2
  rw [HQ.out.1] at h2
  exact h1.cell dqT (m6.at0 HK.out) h2 (by decide) rfl kl)
 have HM : Hid (Mod T w w6) := Lib.hid ((m6.mono (fun _ _ e => e.elim)).trans (mS.mono (fun j _ e => by rw [e]; exact HO.out.2.2.1)))
 clear mE mS m6 kl p0 p1 p2 p3 p4
 go_wp2_with fail
 go_ret
 exact ⟨rfl, ⟨_, kr, HF.out, HO.out.2.1, HO.out.2.2.2⟩, HM.out⟩
end
end Go.Proofs.YtdeghpmlhcaedaaGreatDoor
namespace Go.Proofs.YtdeghpmlhcaedaaGreatDoor
open Go.RowKit Go.Sort
open Go.ChangeMaps (setBlock)
attribute [local go_sem ↓] wlDq ldDq stDq
attribute [local go_sem] cell_blk frozen_blk one_int one_bool one_ptr one_slice one_map Value.cells dqv_size dqv_all dqv_one dqv_one' zDq_size dqv_0 dqv_1 dqv_2 dqv_3 dqv_4
theorem zDq_one : zDq.all (·.oneCell') 0 5 = true := all_of zDq_size (by simp [zDq, Value.oneCell'])
attribute [local go_sem] zDq_one
theorem bsId (k : Nat) (hk : k ≤ 4096) (w : World) : (Instr.buildSlice 79 1 #[(0, .int .i64 (k : Int))]).run Tryz.prog w = .ok (.slice (some ⟨w.heap.size, 0, none⟩) 1 1) (w.alloc (.cells (ic (idn k)) 3)) := by
 obtain ⟨i0, z, hi, hz, hz1, hz2, hz3⟩ := intT.info
 refine run_buildSlice w _ _ 1 _ _ i0 _ Tryz.underlying79 hi hz (by rw [hz1]; omega) (by rw [hz1]; omega) ?_
 rw [hz1]
 show Instr.fill _ _ [(0, _)] = _
 rw [fill_cons (off := 0) (n := 1) rfl rfl (by simp)]
 rw [← idn_toInt (k := k) (by omega)]
 show some (wr _ 0 (ic (idn k)).toList) = _
 rw [wr_whole (ic (idn k)) _ (by simp [ic, hz3])]
section
variable {r n : Nat} {S : List (Option It)} {T : Nat → Prop} {w : World}
theorem docL_ids (hS : S.length ≤ 4096) : ∀ x ∈ docL 0 S, x.id ≤ 4096 := fun x hx => by
 obtain ⟨i, y, h1, rfl⟩ := docL_mem hx
 have := (List.getElem?_eq_some_iff.1 h1).1
 show 0 + i ≤ 4096
 omega
theorem docL_le (hS : S.length ≤ 4096) : (docL 0 S).length ≤ 4096 := by rw [docL_len]; exact Nat.le_trans List.countP_le_length hS
theorem qendN (h : RQ r n (docL 0 S) T w) (last : Bool) (hS : S.length ≤ 4096) (hD : wtg 0 S = []) : Calls Tryz.prog 53 #[ptrV r, .bool last] w fun e w' => e = .returned (.int .i64 (-1)) ∧ Mod (fun _ => False) w w' :=
 (qend_c h last (docL_le hS) (docL_ids hS) (fun j j' y z h1 h2 h3 => docL_nd hS h1 h2 h3)).mono fun e w' h1 => by
  obtain ⟨⟨o, h1, rfl⟩, h2⟩ := h1
  cases o with
  | none => exact ⟨rfl, h2⟩
  | some b =>
   exfalso
   obtain ⟨y, x, h3, h4, h5, h6, h7⟩ := end_some h1 (D := []) (by rw [hD]) .nil
   cases last <;> cases h7
theorem qendY (h : RQ r n (docL 0 S) T w) (last : Bool) (hS : S.length ≤ 4096) {D : List Nd} (hD : D.Perm (wtg 0 S)) (hSr : Srt D) {i : Nat} {x : It} (hx : S[i]? = some (some x)) (hh : (if last then D.getLast? else D.head?) = some ⟨x.rk, idn i⟩) : Calls Tryz.prog 53 #[ptrV r, .bool last] w fun e w' => e = .returned (.int .i64 (posD S i : Int)) ∧ Mod (fun _ => False) w w' :=
 (qend_c h last (docL_le hS) (docL_ids hS) (fun j j' y z h1 h2 h3 => docL_nd hS h1 h2 h3)).mono fun e w' h1 => by
  obtain ⟨⟨o, h1, rfl⟩, h2⟩ := h1
  cases o with
  | none =>
   exfalso
   have h3 := end_none h1
   rw [h3] at hD
   obtain rfl := hD.eq_nil
   cases last <;> cases hh
  | some b =>
   obtain ⟨y, z, h3, h4, h5, h6, h7⟩ := end_some h1 hD hSr
   rw [hh] at h7
   have hi := (List.getElem?_eq_some_iff.1 hx).1
   have hy := (List.getElem?_eq_some_iff.1 h4).1
   have h8 : i = y.id := idn_inj (by omega) (by omega) (congrArg Nd.id (Option.some.inj h7))
   obtain ⟨_, _, _, hp⟩ := docL_pos h3
   refine ⟨?_, h2⟩
   show Ending.returned (.int .i64 (b : Int)) = _
   rw [hp, h8]
set_option maxHeartbeats 1600000 in
theorem qpopN_c (h : RQ r n (docL 0 S) T w) (hS : S.length ≤ 4096) (hD : wtg 0 S = []) : Calls Tryz.prog 21 #[ptrV r] w fun e w' => e = .returned (.tuple #[.int .i64 0, .bool false]) ∧ Mod (fun _ => False) w w' := by
 have H := Lib.hid (And.intro h (And.intro hS hD))
 clear h hS hD
 go_enter Tryz.func21, Tryz.ntmps21
 go_wp2_with fail
 go_at_call 53
 refine (qendN H.out.1 false H.out.2.1 H.out.2.2).mono ?_
 rintro e w1 ⟨rfl, m1⟩
 go_wp2_with fail
 exact bodyPost_ret (results_tmp2 rfl _ _ _) rfl ⟨rfl, m1⟩
set_option maxHeartbeats 1600000 in
theorem qpopY_c (h : RQ r n (docL 0 S) T w) (hS : S.length ≤ 4096) {D : List Nd} (hD : D.Perm (wtg 0 S)) (hSr : Srt D) {i : Nat} {x : It} (hx : S[i]? = some (some x)) (hh : D.head? = some ⟨x.rk, idn i⟩) : Calls Tryz.prog 21 #[ptrV r] w fun e w' => e = .returned (.tuple #[.int .i64 (i : Int), .bool true]) ∧ RQ r n (docL 0 (S.set i (some { x with pl := 1 }))) T w' ∧ Mod T w w' := by
 have H := Lib.hid (And.intro h (And.intro hS (And.intro hx (And.intro (docL_at hx) (And.intro hD (And.intro hSr hh))))))
 clear hD hSr hh
 have hq0 := docL_at hx
 have hlen := docL_le hS
 obtain ⟨v, kr, hO, hTr, hTv⟩ := h
 obtain ⟨g, cap, C, rfl, _, kl, he, hle⟩ := hO.row1 dqT hq0
 obtain ⟨p0, p1, p2, p3, p4⟩ := dq_part he
 have hql := (List.getElem?_eq_some_iff.1 hq0).1
 have HO := Lib.hid (And.intro hO (And.intro hTr (And.intro (hTv g rfl) hTv)))
 have hrg : g ≠ r := fun e => by rw [e, kr] at kl; cases kl
 clear hO hTr hTv hx hq0 he
 obtain ⟨q, hq⟩ : ∃ q, posD S i = q := ⟨_, rfl⟩
 obtain ⟨nl, hnl⟩ : ∃ nl, (docL 0 S).length = nl := ⟨_, rfl⟩
 rw [hq] at p0 p1 p2 p3 p4 hql hle
 rw [hnl] at kr hlen hql
 have HQ := Lib.hid (And.intro hq hnl)
 have HK := Lib.hid kl
 clear hq hnl
 go_enter Tryz.func21, Tryz.ntmps21
 go_wp2_with fail
 go_at_call 53
 refine (qendY H.out.1 false H.out.2.1 H.out.2.2.2.2.1 H.out.2.2.2.2.2.1 H.out.2.2.1 H.out.2.2.2.2.2.2).mono ?_
 rintro e w1 ⟨rfl, m1⟩
 rw [HQ.out.1]
 replace kr := m1.at0 kr
 replace kl := m1.at0 kl
 have hq0 : ¬ ((q : Int) < 0) := by omega
 go_upto_region 4 with fail
 have Lkr := lt_size kr
 have Lkl := lt_size kl
 refine wp_pass0 (C := fun _ _ _ => False) (κ := fun i => [0, 0, 0, 1, 0, 0, 0, 5].getD i 0) [0, 1, 2, 3, 4, 5, 6, 7] (by kernel_rfl) (by kernel_rfl) (fun _ _ d _ _ h => by cases d <;> first | exact h | exact absurd h (hP _ _ _)) ?_
 (refine TD.val0 (v := ?v1) (by simp only [zK]; rfl) rfl (by rfl) (fun w1 => ?y1) ?n1; (case y1 => go_simp; try with_reducible rfl); try simp only [Act.put, zL])
 (refine TD.val0 (v := ?v2) (by simp only [zK]; rfl) rfl (by rfl) (fun w1 => ?y2) ?n2; (case y2 => go_simp; try with_reducible rfl); try simp only [Act.put, zL])
 (refine TD.val0 (v := ?v3) (by simp only [zK]; rfl) rfl (by rfl) (fun w1 => ?y3) ?n3; (case y3 => go_simp; try with_reducible rfl); try simp only [Act.put, zL])
 (refine TD.load (v := ?v4) (p := ?p4) (Mod.refl _ _) (by simp only [zK]; rfl) rfl (by rfl) rfl ?hx4 (fun wq hSq => ?y4) ?n4; (case hx4 => simp only [Act.eval, zM]; try rfl); (case y4 => (have krq := hSq.at kr (fun h => h); have klq := hSq.at kl (fun h => h); go_simp; (try with_reducible rfl))); try simp only [Act.put, zL])
 (refine TD.val0 (v := ?v5) (by simp only [zK]; rfl) rfl (by rfl) (fun w1 => ?y5) ?n5; (case y5 => go_simp; try with_reducible rfl); try simp only [Act.put, zL])
 (refine TD.val0 (v := ?v6) (by simp only [zK]; rfl) rfl (by rfl) (fun w1 => ?y6) ?n6; (case y6 => go_simp; try with_reducible rfl); try simp only [Act.put, zL])
 (refine TD.val0 (v := ?v7) (by simp only [zK]; rfl) rfl (by rfl) (fun w1 => ?y7) ?n7; (case y7 => go_simp; try with_reducible rfl); try simp only [Act.put, zL])
 refine TD.eff (by simp only [zK]; rfl) rfl (fun wE hr => ?_)
 have kr := hr.mod.at0 kr
 have kl := hr.mod.at0 kl
 have mE := hr.mod
 (refine eff_store (X := ?X8) (Y := ?Y8) (w' := ?w8) (by simp only [zK]; rfl) (by rfl) rfl ?hx8 ?hz8 ?y8 ?n8; (case hx8 => simp only [Act.eval, zM]; try rfl); (case hz8 => simp only [Act.eval, zM]; try rfl); (case y8 => go_simp; try with_reducible rfl))
 (first | refine TE.nil_set kl (fun w6 kl mS => ?_) | refine TE.nil_setCell kl (fun w6 kl mS => ?_))
 (try simp only [Array.setIfInBounds, zL] at kl)
 have kr := mS.at_ne kr (by omega)
 have m6 := m1.then0 mE
 have HF : Hid (SlOwn dqv 5 86 w6 0 (.slice (some ⟨g, 0, none⟩) nl cap) (docL 0 (S.set i (some { x with pl := 1 })))) := Lib.hid (by
  rw [docL_set H.out.2.2.1, HQ.out.1]
  have h1 := HO.out.1.mod0 m6
  rw [HQ.out.2] at h1
  have h2 := H.out.2.2.2.1
  rw [HQ.out.1] at h2
  exact h1.cell dqT (m6.at0 HK.out) h2 (by decide) rfl kl)
 have HM : Hid (Mod T w w6) := Lib.hid ((m6.mono (fun _ _ e => e.elim)).trans (mS.mono (fun j _ e => by rw [e]; exact HO.out.2.2.1)))
 replace p0 : (C.setIfInBounds (q * 5 + 3) (.int .i64 1))[q * 5]? = some (.int .i64 ((dOf i x).id : Int)) := by rw [Array.getElem?_setIfInBounds_ne (by omega)]; exact p0
 have hk2 : w6.heap[g]? = some (.cells (C.setIfInBounds (q * 5 + 3) (.int .i64 1)) 86 (0, 0)) := kl
 obtain ⟨C6, hC6⟩ : ∃ C6, C6 = C.setIfInBounds (q * 5 + 3) (.int .i64 1) := ⟨_, rfl⟩
 rw [← hC6] at p0 hk2
 clear mE mS m6 kl p1 p2 p3 p4 hC6
 have hid : ((dOf i x).id : Int) = (i : Int) := rfl
 rw [hid] at p0
 go_wp2_with fail
 exact bodyPost_ret (results_tmp2 rfl _ _ _) rfl ⟨rfl, ⟨_, kr, HF.out, HO.out.2.1, HO.out.2.2.2⟩, HM.out⟩
theorem bldDq0 (w : World) : (Instr.build 86 #[]).run Tryz.prog w = .ok (.agg zDq) w := by kernel_rfl
set_option maxHeartbeats 1600000 in
theorem qfindN_c (h : RQ r n (docL 0 S) T w) (hS : S.length ≤ 4096) {id : Int} (ha : AwayS S id) : Calls Tryz.prog 32 #[ptrV r, .int .i64 id] w fun e w' => e = .returned (.tuple #[.agg zDq, .int .i64 11]) ∧ Mod (fun _ => False) w w' := by
 have H := Lib.hid (And.intro h (And.intro hS ha))
 have hb0 := bldDq0
 clear h hS ha
 go_enter Tryz.func32, Tryz.ntmps32
 go_upto_region 0 with fail
 refine wp_pass0 (C := fun _ _ _ => False) (κ := fun i => [3, 0].getD i 0) [0, 1] (by kernel_rfl) (by kernel_rfl) (fun _ _ d _ _ h => by cases d <;> first | exact h | exact absurd h (hP _ _ _)) ?_
 (refine TD.allocB (by simp only [zK]; rfl) rfl (by rfl) rfl rfl alDq (fun p4 hp4 => ?n9); try simp only [Act.put, zL])
 (refine TD.val0 (v := ?v10) (by simp only [zK]; rfl) rfl (by rfl) (fun w1 => ?y10) ?n10; (case y10 => go_simp; try with_reducible rfl); try simp only [Act.put, zL])
 refine TD.nil (fun w1 hr => ?_)
 have kp4 := hr.box p4 _ (by first | exact Bx.set_same _ _ _ | (simp only [Bx.set_same]; rfl)); dsimp only [Value.cells] at kp4; obtain ⟨gp4, kp4⟩ := kp4
 have m1 := hr.mod
 clear hr
 go_upto_region 1 with fail
 have Lkp4 := lt_size kp4
 refine wp_pass0 (C := fun _ _ v => v = .int .i64 (-1)) (κ := fun i => [0, 0, 2, 0].getD i 0) [0, 1, 2, 3] (by kernel_rfl) (by kernel_rfl) (fun _ _ d _ _ h => by cases d <;> first | exact h | exact absurd h (hP _ _ _)) ?_
 (refine TD.val0 (v := ?v11) (by simp only [zK]; rfl) rfl (by rfl) (fun w1 => ?y11) ?n11; (case y11 => go_simp; try with_reducible rfl); try simp only [Act.put, zL])
 (refine TD.val0 (v := ?v12) (by simp only [zK]; rfl) rfl (by rfl) (fun w1 => ?y12) ?n12; (case y12 => go_simp; try with_reducible rfl); try simp only [Act.put, zL])
 (refine TD.call (f := ?f13) (args := ?r13) (Mod.refl _ _) (by simp only [zK]; rfl) rfl (by rfl) (fun w1 => ?y13) ?hsp13 ?n13; (case y13 => (go_simp; (first | with_reducible rfl | (constructor <;> with_reducible rfl)))); (case hsp13 => (intro wq hSq; have kp4q := hSq.at kp4 (fun h => h); exact (qatN (H.out.1.mod0 (m1.then0 hSq)) H.out.2.1 H.out.2.2).mono (fun e w' h => ⟨_, h.1, rfl, h.2⟩))); rintro _ rfl; try simp only [Act.put, zL])
 (refine TD.val0 (v := ?v14) (by simp only [zK]; rfl) rfl (by rfl) (fun w1 => ?y14) ?n14; (case y14 => go_simp; try with_reducible rfl); try simp only [Act.put, zL])
 refine TD.nil (fun w2 hr => ?_)
 have kp4 := hr.mod.at kp4 (fun h => h)
 have m2 := m1.then0 hr.mod
 clear hr
 go_upto_region 3 with fail
 have Lkp4 := lt_size kp4
 refine wp_pass0 (C := fun _ _ _ => False) (κ := fun i => [0, 5, 0].getD i 0) [0, 1, 2] (by kernel_rfl) (by kernel_rfl) (fun _ _ d _ _ h => by cases d <;> first | exact h | exact absurd h (hP _ _ _)) ?_
 (refine TD.build (v := ?v15) (ps := ?p15) (by simp only [zK]; rfl) rfl (by rfl) rfl ?hx15 (fun w1 => ?y15) ?n15; (case hx15 => (simp only [List.map_toArray, List.map_cons, List.map_nil, Act.eval, zM]; (try rfl))); (case y15 => (rw [hb0]; (try with_reducible rfl))); try simp only [Act.put, zL])
 refine TD.eff (by simp only [zK]; rfl) rfl (fun w4 hr => ?_)
 have kp4 := hr.mod.at kp4 (fun h => h)
 have m4 := m2.then0 hr.mod
 clear hr
 (refine eff_store (X := ?X17) (Y := ?Y17) (w' := ?w17) (by simp only [zK]; rfl) (by rfl) rfl ?hx17 ?hz17 ?y17 ?n17; (case hx17 => simp only [Act.eval, zM]; try rfl); (case hz17 => simp only [Act.eval, zM]; try rfl); (case y17 => go_simp; try with_reducible rfl))
 (first | refine TE.mid_set kp4 (fun wn kp4 mS => ?_) | refine TE.mid_setCell kp4 (fun wn kp4 mS => ?_))
 (try simp only [Array.setIfInBounds, zL] at kp4)
 have m5 := m4.thenB mS (.inl gp4)
 clear mS
 (refine TE.val0 (v := ?v18) (by simp only [zK]; rfl) (by rfl) (fun w1 => ?y18) ?n18; (case y18 => go_simp; try with_reducible rfl); try simp only [Act.put, zL])
 refine TE.nil ?_
 go_wp2_with fail
 exact bodyPost_ret (results_cell2 (x := .agg zDq) rfl rfl (by rw [ldDq]; simp [kp4, zDq])) rfl ⟨rfl, m5⟩
set_option maxHeartbeats 1600000 in
theorem qfindY_c (h : RQ r n (docL 0 S) T w) (hS : S.length ≤ 4096) {i : Nat} {x : It} (hx : S[i]? = some (some x)) : Calls Tryz.prog 32 #[ptrV r, .int .i64 (i : Int)] w fun e w' => e = .returned (.tuple #[.agg (dqv (dOf i x)), .int .i64 0]) ∧ Mod (fun _ => False) w w' := by
 have H := Lib.hid (And.intro h (And.intro hS hx))
 have hq0 := docL_at hx
 obtain ⟨v, kr, hO, hTr, hTv⟩ := h
 obtain ⟨g, cap, C, rfl, _, kl, he, hle⟩ := hO.row1 dqT hq0
 have hql := (List.getElem?_eq_some_iff.1 hq0).1
 clear hO hTr hTv hx hq0
 obtain ⟨q, hq⟩ : ∃ q, posD S i = q := ⟨_, rfl⟩
 obtain ⟨nl, hnl⟩ : ∃ nl, (docL 0 S).length = nl := ⟨_, rfl⟩
 rw [hq] at he hle hql
 rw [hnl] at kr hql
 have HQ := Lib.hid hq
 clear hq hnl
 go_enter Tryz.func32, Tryz.ntmps32
 go_upto_region 0 with fail
 have Lkr := lt_size kr
 have Lkl := lt_size kl
 refine wp_pass0 (C := fun _ _ _ => False) (κ := fun i => [3, 0].getD i 0) [0, 1] (by kernel_rfl) (by kernel_rfl) (fun _ _ d _ _ h => by cases d <;> first | exact h | exact absurd h (hP _ _ _)) ?_
 (refine TD.allocB (by simp only [zK]; rfl) rfl (by rfl) rfl rfl alDq (fun p4 hp4 => ?n19); try simp only [Act.put, zL])
 (refine TD.val0 (v := ?v20) (by simp only [zK]; rfl) rfl (by rfl) (fun w1 => ?y20) ?n20; (case y20 => go_simp; try with_reducible rfl); try simp only [Act.put, zL])
 refine TD.nil (fun w1 hr => ?_)
 have kr := hr.mod.at kr (fun h => h)
 have kl := hr.mod.at kl (fun h => h)
 have kp4 := hr.box p4 _ (by first | exact Bx.set_same _ _ _ | (simp only [Bx.set_same]; rfl)); dsimp only [Value.cells] at kp4; obtain ⟨gp4, kp4⟩ := kp4
 have m1 := hr.mod
 clear hr
 go_upto_region 1 with fail
 have Lkp4 := lt_size kp4
 have Lkr := lt_size kr
 have Lkl := lt_size kl
 refine wp_pass0 (C := fun _ _ v => v = .int .i64 (q : Int)) (κ := fun i => [0, 0, 2, 0].getD i 0) [0, 1, 2, 3] (by kernel_rfl) (by kernel_rfl) (fun _ _ d _ _ h => by cases d <;> first | exact h | exact absurd h (hP _ _ _)) ?_
 (refine TD.val0 (v := ?v21) (by simp only [zK]; rfl) rfl (by rfl) (fun w1 => ?y21) ?n21; (case y21 => go_simp; try with_reducible rfl); try simp only [Act.put, zL])
 (refine TD.val0 (v := ?v22) (by simp only [zK]; rfl) rfl (by rfl) (fun w1 => ?y22) ?n22; (case y22 => go_simp; try with_reducible rfl); try simp only [Act.put, zL])
 (refine TD.call (f := ?f23) (args := ?r23) (Mod.refl _ _) (by simp only [zK]; rfl) rfl (by rfl) (fun w1 => ?y23) ?hsp23 ?n23; (case y23 => (go_simp; (first | with_reducible rfl | (constructor <;> with_reducible rfl)))); (case hsp23 => (intro wq hSq; have kp4q := hSq.at kp4 (fun h => h); have krq := hSq.at kr (fun h => h); have klq := hSq.at kl (fun h => h); exact (qatY (H.out.1.mod0 (m1.then0 hSq)) H.out.2.1 H.out.2.2).mono (fun e w' h => ⟨_, h.1, by rw [HQ.out], h.2⟩))); rintro _ rfl; try simp only [Act.put, zL])
 (refine TD.val0 (v := ?v24) (by simp only [zK]; rfl) rfl (by rfl) (fun w1 => ?y24) ?n24; (case y24 => go_simp; try with_reducible rfl); try simp only [Act.put, zL])
 refine TD.nil (fun w2 hr => ?_)
 have kp4 := hr.mod.at kp4 (fun h => h)
 have kr := hr.mod.at kr (fun h => h)
 have kl := hr.mod.at kl (fun h => h)
 have m2 := m1.then0 hr.mod
 clear hr
 have hq0 : ¬ ((q : Int) < 0) := by omega
 go_upto_region 4 with fail
 have Lkp4 := lt_size kp4
 have Lkr := lt_size kr
 have Lkl := lt_size kl
 refine wp_pass0 (C := fun _ _ _ => False) (κ := fun i => [0, 0, 0, 1, 0, 0, 1, 5, 0].getD i 0) [0, 1, 2, 3, 4, 5, 6, 7, 8] (by kernel_rfl) (by kernel_rfl) (fun _ _ d _ _ h => by cases d <;> first | exact h | exact absurd h (hP _ _ _)) ?_
 (refine TD.val0 (v := ?v25) (by simp only [zK]; rfl) rfl (by rfl) (fun w1 => ?y25) ?n25; (case y25 => go_simp; try with_reducible rfl); try simp only [Act.put, zL])
 (refine TD.val0 (v := ?v26) (by simp only [zK]; rfl) rfl (by rfl) (fun w1 => ?y26) ?n26; (case y26 => go_simp; try with_reducible rfl); try simp only [Act.put, zL])
 (refine TD.val0 (v := ?v27) (by simp only [zK]; rfl) rfl (by rfl) (fun w1 => ?y27) ?n27; (case y27 => go_simp; try with_reducible rfl); try simp only [Act.put, zL])
 (refine TD.load (v := ?v28) (p := ?p28) (Mod.refl _ _) (by simp only [zK]; rfl) rfl (by rfl) rfl ?hx28 (fun wq hSq => ?y28) ?n28; (case hx28 => simp only [Act.eval, zM]; try rfl); (case y28 => (have kp4q := hSq.at kp4 (fun h => h); have krq := hSq.at kr (fun h => h); have klq := hSq.at kl (fun h => h); go_simp; (try with_reducible rfl))); try simp only [Act.put, zL])
 (refine TD.val0 (v := ?v29) (by simp only [zK]; rfl) rfl (by rfl) (fun w1 => ?y29) ?n29; (case y29 => go_simp; try with_reducible rfl); try simp only [Act.put, zL])
 (refine TD.val0 (v := ?v30) (by simp only [zK]; rfl) rfl (by rfl) (fun w1 => ?y30) ?n30; (case y30 => go_simp; try with_reducible rfl); try simp only [Act.put, zL])
 (refine TD.load (v := ?v31) (p := ?p31) (Mod.refl _ _) (by simp only [zK]; rfl) rfl (by rfl) rfl ?hx31 (fun wq hSq => ?y31) ?n31; (case hx31 => simp only [Act.eval, zM]; try rfl); (case y31 => (have kp4q := hSq.at kp4 (fun h => h); have krq := hSq.at kr (fun h => h); have klq := hSq.at kl (fun h => h); go_simp; (try with_reducible rfl))); try simp only [Act.put, zL])
 refine TD.eff (by simp only [zK]; rfl) rfl (fun w4 hr => ?_)
 have kp4 := hr.mod.at kp4 (fun h => h)
 have kr := hr.mod.at kr (fun h => h)
 have kl := hr.mod.at kl (fun h => h)
 have m4 := m2.then0 hr.mod
 clear hr
 (refine eff_store (X := ?X33) (Y := ?Y33) (w' := ?w33) (by simp only [zK]; rfl) (by rfl) rfl ?hx33 ?hz33 ?y33 ?n33; (case hx33 => simp only [Act.eval, zM]; try rfl); (case hz33 => simp only [Act.eval, zM]; try rfl); (case y33 => go_simp; try with_reducible rfl))
 (first | refine TE.mid_set kp4 (fun wn kp4 mS => ?_) | refine TE.mid_setCell kp4 (fun wn kp4 mS => ?_))
 (try simp only [Array.setIfInBounds, zL] at kp4)
 have m5 := m4.thenB mS (.inl gp4)
 clear mS
 (refine TE.val0 (v := ?v34) (by simp only [zK]; rfl) (by rfl) (fun w1 => ?y34) ?n34; (case y34 => go_simp; try with_reducible rfl); try simp only [Act.put, zL])
 refine TE.nil ?_
 go_wp2_with fail
 exact bodyPost_ret (results_cell2 (x := .agg (dqv (dOf i x))) rfl rfl (by rw [ldDq]; simp [kp4, dqv, he])) rfl ⟨rfl, m5⟩
end
end Go.Proofs.YtdeghpmlhcaedaaGreatDoor
namespace Go.Proofs.YtdeghpmlhcaedaaGreatDoor
open Go.RowKit Go.Sort
open Go.ChangeMaps (setBlock)
attribute [local go_sem ↓] wlDq ldDq stDq
attribute [local go_sem] cell_blk frozen_blk one_int one_bool one_ptr one_slice one_map Value.cells dqv_size dqv_all dqv_one dqv_one' zDq_size dqv_0 dqv_1 dqv_2 dqv_3 dqv_4
def OwnD (B0 : Nat) (l : List Dq) (v : Value) : Land := fun T w => SlOwn dqv 5 86 w B0 v l ∧ ∀ g, v.ownBlock = some g → T g
theorem goodOwnD (B0 : Nat) (l : List Dq) (v : Value) : Good (OwnD B0 l v) where
 cl := fun T w w' h hm => ⟨h.1.mod hm (fun b hb hn => hn (h.2 b hb)), h.2⟩
 gr := fun T T' w hT h => ⟨h.1, fun g hg => hT g (h.2 g hg)⟩
theorem app_nilD {w : World} {B0 c : Nat} {q : List Dq} {a : Option Addr} {T : Nat → Prop} (hs : SlAt dqv 5 w a q) (hq : q.length ≤ 1000000) (hB : B0 ≤ w.heap.size) : ∃ v w', (Builtin.append_ #[67, 67] 67 #[.slice none 0 0, .slice a q.length c]).run Tryz.prog w = .ok v w' ∧ Mod T w w' ∧ OwnD B0 q v (Grow T w w') w' := by
 obtain ⟨v, w', hap, hO, m, hn⟩ := SlOwn.append dqT (c := c) (SlOwn.nil (f := dqv) (n := 5) (E := 86) w B0) hs (by simpa using hq) (by decide) hB 67
 refine ⟨v, w', hap, m.mono (fun _ _ e => by cases e), by simpa using hO, fun g hg => ?_⟩
 rcases hn with h | h
 ·rw [hg] at h
  cases h
 ·rw [hg] at h
  cases h
  exact .inr ⟨Nat.le_refl _, (hO.lt _ hg).2⟩
theorem app_ownD {w : World} {B0 c : Nat} {l q : List Dq} {v : Value} {a : Option Addr} {T : Nat → Prop} (hv : OwnD B0 l v T w) (hs : SlAt dqv 5 w a q) (hq : l.length + q.length ≤ 1000000) (hB : B0 ≤ w.heap.size) : ∃ v' w', (Builtin.append_ #[67, 67] 67 #[v, .slice a q.length c]).run Tryz.prog w = .ok v' w' ∧ Mod T w w' ∧ OwnD B0 (l ++ q) v' (Grow T w w') w' := by
 obtain ⟨v', w', hap, hO, m, hn⟩ := SlOwn.append dqT (c := c) hv.1 hs hq (by decide) hB 67
 refine ⟨v', w', hap, m.mono (fun i _ e => hv.2 i e), hO, fun g hg => ?_⟩
 rcases hn with h | h
 ·rw [hg] at h
  exact .inl (hv.2 g h.symm)
 ·rw [hg] at h
  cases h
  exact .inr ⟨Nat.le_refl _, (hO.lt _ hg).2⟩
theorem SlOwn.low {α : Type} {f : α → Array Value} {n b b' : Nat} {E : TypeId} {w : World} {v : Value} {l : List α} (h : SlOwn f n E w b v l) (hb : b' ≤ b) : SlOwn f n E w b' v l := by
 refine ⟨h.1, ?_⟩
 rcases h.2 with h | ⟨g, cap, cur, e, hg, r⟩
 ·exact .inl h
 ·exact .inr ⟨g, cap, cur, e, Nat.le_trans hb hg, r⟩
def QT (r n : Nat) (L : List Dq) (T : Nat → Prop) (w w' : World) : Prop := ∃ T', RQ r n L T' w' ∧ Mod T w w' ∧ (∀ i, T' i → T i ∨ w.heap.size ≤ i) ∧ ∀ i, T' i → i < w'.heap.size
set_option maxRecDepth 20000 in
set_option maxHeartbeats 6400000 in
theorem qwith_c {r n i : Nat} {L : List Dq} {T : Nat → Prop} {w : World} (h : RQ r n L T w) (hT : ∀ i, T i → i < w.heap.size) (hL : L.length ≤ 4096) (hi : i < L.length) : Calls Tryz.prog 55 #[ptrV r, .int .i64 (i : Int)] w fun e w' =>
  e = .returned (.tuple #[]) ∧ QT r n (L.take i ++ L.drop (i + 1)) T w w' := by
 obtain ⟨v, kr, hO, hTp, hTv⟩ := h
 have HT := Lib.hid (And.intro hT (And.intro hTp hTv))
 obtain ⟨a, c, rfl, hs, _⟩ := hO.at dqT
 have HO := Lib.hid hO
 have hi1 : i + 1 ≤ L.length := hi
 have hw1 : IntKind.i64.wrap ((i : Int) + 1) = ((i + 1 : Nat) : Int) := by
  rw [IntKind.wrap_i64]
  omega
 obtain ⟨at1, ct1, hq1, hs1, hb1⟩ := own_takeR dqT hO (k := i) (by omega)
 obtain ⟨at2, ct2, hq2, hs2, hb2⟩ := own_dropR dqT hO hi1
 have hkl : (L.take i).length = i := by rw [List.length_take]; omega
 have hdl : (L.drop (i + 1)).length = L.length - (i + 1) := by rw [List.length_drop]
 rw [hdl] at hq2
 have hB : ∀ b o, at1 = some ⟨b, o, none⟩ ∨ at2 = some ⟨b, o, none⟩ → b < w.heap.size := fun b o e => e.elim (fun e => (HO.out.lt _ (hb1 b o e)).2) (fun e => (HO.out.lt _ (hb2 b o e)).2)
 have HS := Lib.hid (And.intro hs1 (And.intro hs2 (And.intro hkl (And.intro hdl hB))))
 clear hs1 hs2 hkl hdl hB hb1 hb2 hO hT hTp hTv hs
 replace hq2 : ∀ w2, (Instr.sliceAt 67 _ (some (.int .i64 ((i : Int) + 1))) none none).run Tryz.prog w2 = _ := hq2
 have htl : (L.take i).length = i := HS.out.2.2.1
 go_enter Tryz.func55, Tryz.ntmps55
 go_upto_region 0 with fail
 have Lkr := lt_size kr
 refine wp_epass (T0 := fun _ => False) (K := fun _ _ => True) (κ := fun i => [0, 0, 0, 0, 0, 0, 0, 6, 0, 0, 0, 0, 0, 0, 0, 6, 0, 0, 6].getD i 0) (υ := fun i => [[], [], [], [], [], [], [], [], [], [], [], [], [], [], [], [], [], [], []].getD i []) [0, 1, 2, 3, 4, 5, 6, 7, 8, 9, 10, 11, 12, 13, 14, 15, 16, 17] [18] (by kernel_rfl) (by kernel_rfl) (Good.true).cl (trivial) (fun _ h => h.elim) ?_
 have gK := Good.true
 (refine TG.v0 (v := ?v1) (by simp only [zK]; rfl) rfl (by rfl) (fun w1 => ?y1) ?n1; (case y1 => go_simp; try with_reducible rfl); try simp only [Act.put, zL])
 (refine TG.v0 (v := ?v2) (by simp only [zK]; rfl) rfl (by rfl) (fun w1 => ?y2) ?n2; (case y2 => go_simp; try with_reducible rfl); try simp only [Act.put, zL])
 (refine TG.v0 (v := ?v3) (by simp only [zK]; rfl) rfl (by rfl) (fun w1 => ?y3) ?n3; (case y3 => go_simp; try with_reducible rfl); try simp only [Act.put, zL])
 (refine TG.v0 (v := ?v4) (by simp only [zK]; rfl) rfl (by rfl) (fun w1 => ?y4) ?n4; (case y4 => go_simp; try with_reducible rfl); try simp only [Act.put, zL])
 (refine TG.load (v := ?v5) (p := ?p5) (by simp only [zK]; rfl) rfl (by rfl) rfl ?hx5 (fun wq hSq => ?y5) ?n5; (case hx5 => simp only [Act.eval, zM]; try rfl); (case y5 => (have krq := hSq.at kr (fun h => h); go_simp; (try with_reducible rfl))); try simp only [Act.put, zL])
 (refine TG.v0 (v := ?v6) (by simp only [zK]; rfl) rfl (by rfl) (fun w1 => ?y6) ?n6; (case y6 => go_simp; try with_reducible rfl); try simp only [Act.put, zL])
 (refine TG.slice (by simp only [zK]; rfl) rfl (by rfl) rfl ?hs7 ?hl7 ?hh7 ?hm7 hq1 ?n7; (case hs7 => simp only [Act.eval, zM]; try rfl); (case hl7 => first | rfl | (simp only [Option.map_some, Act.eval, zM]; (try rfl))); (case hh7 => first | rfl | (simp only [Option.map_some, Act.eval, zM]; (try rfl))); (case hm7 => rfl); try simp only [Act.put, zL])
 (refine TG.appK (X := ?X8) (Y := ?Y8) (OwnD w.heap.size (L.take i)) (goodOwnD w.heap.size (L.take i)) (by simp only [zK]; rfl) rfl (by rfl) rfl ?hx8 ?hz8 (fun T wq kq ltq hSq ub => ?y8) ?n8; (case hx8 => simp only [Act.eval, zM]; try rfl); (case hz8 => simp only [Act.eval, zM]; try rfl); (case y8 => (have krq := hSq.at kr (fun h => h); have hh := app_nilD (B0 := w.heap.size) (c := ct1) (T := T) (HS.out.1.mod0 hSq) (by rw [HS.out.2.2.1]; omega) hSq.size; rw [HS.out.2.2.1] at hh; exact hh)); rintro v8 ⟨wI, TI, hI⟩; replace gK := (goodOwnD w.heap.size (L.take i)) v8; skip; (try clear hI TI wI); try simp only [Act.put, zL])
 (refine TG.v0 (v := ?v9) (by simp only [zK]; rfl) rfl (by rfl) (fun w1 => ?y9) ?n9; (case y9 => go_simp; try with_reducible rfl); try simp only [Act.put, zL])
 (refine TG.v0 (v := ?v10) (by simp only [zK]; rfl) rfl (by rfl) (fun w1 => ?y10) ?n10; (case y10 => go_simp; try with_reducible rfl); try simp only [Act.put, zL])
 (refine TG.v0 (v := ?v11) (by simp only [zK]; rfl) rfl (by rfl) (fun w1 => ?y11) ?n11; (case y11 => go_simp; try with_reducible rfl); try simp only [Act.put, zL])
 (refine TG.load (v := ?v12) (p := ?p12) (by simp only [zK]; rfl) rfl (by rfl) rfl ?hx12 (fun wq hSq => ?y12) ?n12; (case hx12 => simp only [Act.eval, zM]; try rfl); (case y12 => (have krq := hSq.at kr (fun h => h); go_simp; (try with_reducible rfl))); try simp only [Act.put, zL])
 (refine TG.v0 (v := ?v13) (by simp only [zK]; rfl) rfl (by rfl) (fun w1 => ?y13) ?n13; (case y13 => go_simp; try with_reducible rfl); try simp only [Act.put, zL])
 (refine TG.v0 (v := ?v14) (by simp only [zK]; rfl) rfl (by rfl) (fun w1 => ?y14) ?n14; (case y14 => go_simp; try with_reducible rfl); try simp only [Act.put, zL])
 (refine TG.slice (by simp only [zK]; rfl) rfl (by rfl) rfl ?hs15 ?hl15 ?hh15 ?hm15 hq2 ?n15; (case hs15 => simp only [Act.eval, zM]; try rfl); (case hl15 => first | rfl | (simp only [Option.map_some, Act.eval, zM]; (try rfl))); (case hh15 => first | rfl | (simp only [Option.map_some, Act.eval, zM]; (try rfl))); (case hm15 => rfl); try simp only [Act.put, zL])
 (refine TG.appK (X := ?X16) (Y := ?Y16) (OwnD w.heap.size (L.take i ++ L.drop (i + 1))) (goodOwnD w.heap.size (L.take i ++ L.drop (i + 1))) (by simp only [zK]; rfl) rfl (by rfl) rfl ?hx16 ?hz16 (fun T wq kq ltq hSq ub => ?y16) ?n16; (case hx16 => simp only [Act.eval, zM]; try rfl); (case hz16 => simp only [Act.eval, zM]; try rfl); (case y16 => (have krq := hSq.at kr (fun h => h); have hh := app_ownD (c := ct2) kq (HS.out.2.1.mod0 hSq) (by rw [HS.out.2.2.1, HS.out.2.2.2.1]; omega) hSq.size; rw [HS.out.2.2.2.1] at hh; exact hh)); rintro v16 ⟨wI, TI, hI⟩; replace gK := (goodOwnD w.heap.size (L.take i ++ L.drop (i + 1))) v16; skip; (try clear hI TI wI); try simp only [Act.put, zL])
 (refine TG.v0 (v := ?v17) (by simp only [zK]; rfl) rfl (by rfl) (fun w1 => ?y17) ?n17; (case y17 => go_simp; try with_reducible rfl); try simp only [Act.put, zL])
 (refine TG.v0 (v := ?v18) (by simp only [zK]; rfl) rfl (by rfl) (fun w1 => ?y18) ?n18; (case y18 => go_simp; try with_reducible rfl); try simp only [Act.put, zL])
 refine TG.nil (fun w4 ⟨TR, hr⟩ => ?_)
 have kr := hr.mod.at kr (fun h => h)
 clear gK
 have mw := hr.mod
 have hO6 := hr.k.1
 obtain ⟨a6, c6, hv6, _⟩ := hO6.at dqT
 generalize hn6 : (L.take i ++ L.drop (i + 1)).length = n6 at hv6
 subst hv6
 have hlt6 := hO6.lt
 have hpw := HT.out.1 r HT.out.2.1
 have HO6 := Lib.hid (And.intro hO6 hlt6)
 clear hO6 hlt6 hr hn6 hq1 hq2 htl
 refine TE.step (by simp only [zK]; rfl) rfl ?_
 (refine eff_store (X := ?X19) (Y := ?Y19) (w' := ?w19) (by simp only [zK]; rfl) (by rfl) rfl ?hx19 ?hz19 ?y19 ?n19; (case hx19 => simp only [Act.eval, zM]; try rfl); (case hz19 => simp only [Act.eval, zM]; try rfl); (case y19 => go_simp; try with_reducible rfl))
 (first | refine TE.nil_set kr (fun wn kr mS => ?_) | refine TE.nil_setCell kr (fun wn kr mS => ?_))
 (try simp only [Array.setIfInBounds, zL] at kr)
 (try simp only [Act.put, zL])
 replace kr : wn.heap[r]? = some (.cells #[.int .i64 (n : Int), .slice a6 n6 c6] 69 (0, 0)) := kr
 have m5 : Mod (fun i => i = r) w wn := (mw.mono (fun _ _ e => e.elim)).then mS (fun _ _ e => e)
 have HO7 := Lib.hid (HO6.out.1.mod mS (fun g hg e => by have := (HO6.out.2 g hg).1; omega))
 clear mS mw hpw
 have hO9 := HO7.out
 have hsz := m5.size
 have hlt9 := hO9.lt
 have HFIN : Hid (QT r n (L.take i ++ L.drop (i + 1)) T w wn) := Lib.hid ⟨fun j => T j ∨ (w.heap.size ≤ j ∧ j < wn.heap.size), ⟨_, kr, hO9.low (Nat.zero_le _), .inl HT.out.2.1, fun g hg => .inr (hlt9 g hg)⟩, m5.mono (fun j _ e => by rw [e]; exact HT.out.2.1), fun j hj => hj.elim .inl (fun h => .inr h.1), fun j hj => hj.elim (fun h => Nat.lt_of_lt_of_le (HT.out.1 j h) hsz) (fun h => h.2)⟩
 clear hO9 hsz hlt9 m5
 go_wp2_with fail
 go_end0
 exact ⟨rfl, HFIN.out⟩
section
variable {r n : Nat} {S : List (Option It)} {T : Nat → Prop} {w : World}
set_option maxHeartbeats 1600000 in
theorem qdoneY_c (h : RQ r n (docL 0 S) T w) (hT : ∀ i, T i → i < w.heap.size) (hS : S.length ≤ 4096) {i : Nat} {x : It} (hx : S[i]? = some (some x)) : Calls Tryz.prog 25 #[ptrV r, .int .i64 (i : Int)] w fun e w' => e = .returned (.int .i64 0) ∧ QT r n (docL 0 (S.set i none)) T w w' := by
 have H := Lib.hid (And.intro h (And.intro hS (And.intro hx (And.intro (docL_at hx) hT))))
 obtain ⟨q, hq⟩ : ∃ q, posD S i = q := ⟨_, rfl⟩
 have HQ := Lib.hid hq
 have hq0 : ¬ ((q : Int) < 0) := by omega
 clear h hS hx hT hq
 go_enter Tryz.func25, Tryz.ntmps25
 go_wp2_with fail
 go_at_call 56
 refine (qatY H.out.1 H.out.2.1 H.out.2.2.1).mono ?_
 rintro e w1 ⟨rfl, m1⟩
 rw [HQ.out]
 go_wp2_with fail
 go_at_call 55
 refine (qwith_c (H.out.1.mod0 m1) (fun j hj => Nat.lt_of_lt_of_le (H.out.2.2.2.2 j hj) m1.size) (docL_le H.out.2.1) (i := q) (by rw [← HQ.out]; exact (List.getElem?_eq_some_iff.1 H.out.2.2.2.1).1)).mono ?_
 rintro e w2 ⟨rfl, T', h1, h2, h3, h4⟩
 go_wp2_with fail
 go_ret
 refine ⟨rfl, T', by rw [docL_del H.out.2.2.1, HQ.out]; exact h1, (m1.mono (fun _ _ e => e.elim)).trans h2, fun j hj => (h3 j hj).imp id (fun h => Nat.le_trans m1.size h), h4⟩
set_option maxRecDepth 20000 in
set_option maxHeartbeats 3200000 in
theorem qparked_c (h : RQ r n (docL 0 S) T w) (hS : S.length ≤ 4096) : Calls Tryz.prog 30 #[ptrV r] w fun e w' => ∃ v, e = .returned v ∧ SlOwn ic 1 3 w' w.heap.size v ((pkd S).map idn) ∧ Mod (fun _ => False) w w' := by
 obtain ⟨L, hL⟩ : ∃ L, L = docL 0 S := ⟨_, rfl⟩
 have hlen : L.length ≤ 4096 := by rw [hL]; exact docL_le hS
 have hids : ∀ x ∈ L, x.id ≤ 4096 := by rw [hL]; exact docL_ids hS
 have hpk : (L.filter (fun y => y.pl == 2)).map (fun y => idn y.id) = (pkd S).map idn := by
  rw [hL]
  have h1 := docL_pkd S 0
  rw [show (fun i => 0 + i) = (id : Nat → Nat) from funext (fun i => Nat.zero_add i), List.map_id] at h1
  rw [← h1, List.map_map]
  rfl
 rw [← hL] at h
 obtain ⟨a, c, kr, hs⟩ := h.sl
 have H := Lib.hid (And.intro hs (And.intro hids (And.intro hpk (And.intro h (lt_size kr)))))
 have HL := Lib.hid hL
 clear h hs hids hpk hL hS
 go_enter Tryz.func30, Tryz.ntmps30
 go_wp2_with fail
 go_loopw [3, 4] (fun s3 s4 ws => ∃ (i : Nat) (v : Value), i ≤ L.length ∧ s4 = .int .i64 (i : Int) ∧ v = s3 ∧ Hid (SlOwn ic 1 3 ws w.heap.size v (((L.take i).filter (fun y => y.pl == 2)).map (fun y => idn y.id))) ∧ Hid (Mod (fun _ => False) w ws)) (fun _ s4 _ => L.length - (intOf s4).toNat)
 case atStart => exact ⟨0, _, by omega, rfl, rfl, Lib.hid (SlOwn.nil _ _), Lib.hid (Mod.refl _ _)⟩
 case round =>
  obtain ⟨i, v, hi, rfl, rfl, HV, HM⟩ := hrel
  have kr := HM.out.at0 kr
  by_cases hlt : i < L.length
  ·obtain ⟨y, hy⟩ : ∃ y, L[i]? = some y := ⟨_, List.getElem?_eq_getElem hlt⟩
   obtain ⟨g, oo, C, U, fr, rfl, kl, he, hle⟩ := (H.out.1.mod0 HM.out).block hy
   obtain ⟨e0, _, _, e3, _⟩ := dq_part he
   have HY := Lib.hid (And.intro hy (H.out.2.1 y (List.mem_of_getElem? hy)))
   clear hy he
   by_cases hp : y.pl = 2
   ·have hde : ((y.pl : Int) == 2) = true := by rw [hp]; rfl
    have hst : ((L.take (i + 1)).filter (fun y => y.pl == 2)).map (fun y => idn y.id) = ((L.take i).filter (fun y => y.pl == 2)).map (fun y => idn y.id) ++ [idn y.id] := by
     rw [List.take_add_one, HY.out.1, List.filter_append, List.map_append]
     simp [hp]
    have hbs := bsId y.id HY.out.2
    obtain ⟨a3, c3, hv3, _⟩ := HV.out.at intT
    have hll : (((L.take i).filter (fun y => y.pl == 2)).map (fun y => idn y.id)).length ≤ i := by
     rw [List.length_map]
     refine Nat.le_trans (List.length_filter_le _ _) ?_
     rw [List.length_take]
     omega
    generalize hnn : (((L.take i).filter (fun y => y.pl == 2)).map (fun y => idn y.id)).length = nn at hv3
    have HP := Lib.hid (And.intro hp (And.intro hst (And.intro hnn hll)))
    subst hv3
    clear hp hst hnn hll
    go_upto_region 6 with fail
    have Lkr := lt_size kr
    have Lkl := lt_size kl
    refine wp_pass0 (C := fun _ _ _ => False) (κ := fun i => [0, 0, 0, 0, 1, 0, 0, 0, 1, 3, 5, 0].getD i 0) [0, 1, 2, 3, 4, 5, 6, 7, 8, 9, 10, 11] (by kernel_rfl) (by kernel_rfl) (fun _ _ d _ _ h => by cases d <;> first | exact h | exact absurd h (hP _ _ _)) ?_
    (refine TD.val0 (v := ?v20) (by simp only [zK]; rfl) rfl (by rfl) (fun w1 => ?y20) ?n20; (case y20 => go_simp; try with_reducible rfl); try simp only [Act.put, zL])
    (refine TD.val0 (v := ?v21) (by simp only [zK]; rfl) rfl (by rfl) (fun w1 => ?y21) ?n21; (case y21 => go_simp; try with_reducible rfl); try simp only [Act.put, zL])
    (refine TD.val0 (v := ?v22) (by simp only [zK]; rfl) rfl (by rfl) (fun w1 => ?y22) ?n22; (case y22 => go_simp; try with_reducible rfl); try simp only [Act.put, zL])
    (refine TD.val0 (v := ?v23) (by simp only [zK]; rfl) rfl (by rfl) (fun w1 => ?y23) ?n23; (case y23 => go_simp; try with_reducible rfl); try simp only [Act.put, zL])
    (refine TD.load (v := ?v24) (p := ?p24) (Mod.refl _ _) (by simp only [zK]; rfl) rfl (by rfl) rfl ?hx24 (fun wq hSq => ?y24) ?n24; (case hx24 => simp only [Act.eval, zM]; try rfl); (case y24 => (have krq := hSq.at kr (fun h => h); have klq := hSq.at kl (fun h => h); go_simp; (try with_reducible rfl))); try simp only [Act.put, zL])
    (refine TD.val0 (v := ?v25) (by simp only [zK]; rfl) rfl (by rfl) (fun w1 => ?y25) ?n25; (case y25 => go_simp; try with_reducible rfl); try simp only [Act.put, zL])
    (refine TD.val0 (v := ?v26) (by simp only [zK]; rfl) rfl (by rfl) (fun w1 => ?y26) ?n26; (case y26 => go_simp; try with_reducible rfl); try simp only [Act.put, zL])
    (refine TD.val0 (v := ?v27) (by simp only [zK]; rfl) rfl (by rfl) (fun w1 => ?y27) ?n27; (case y27 => go_simp; try with_reducible rfl); try simp only [Act.put, zL])
    (refine TD.load (v := ?v28) (p := ?p28) (Mod.refl _ _) (by simp only [zK]; rfl) rfl (by rfl) rfl ?hx28 (fun wq hSq => ?y28) ?n28; (case hx28 => simp only [Act.eval, zM]; try rfl); (case y28 => (have krq := hSq.at kr (fun h => h); have klq := hSq.at kl (fun h => h); go_simp; (try with_reducible rfl))); try simp only [Act.put, zL])
    (refine TD.bslice (by simp only [zK]; rfl) rfl (by rfl) rfl rfl ?hx29 hbs (fun p32 hp32 => ?n29); (case hx29 => (simp only [List.map_toArray, List.map_cons, List.map_nil, Act.eval, zM]; (try rfl))); try simp only [Act.put, zL])
    refine TD.eff (by simp only [zK]; rfl) rfl (fun w5 hr => ?_)
    have kr := hr.mod.at kr (fun h => h)
    have kl := hr.mod.at kl (fun h => h)
    have kp32 := hr.box p32 _ (by first | exact Bx.set_same _ _ _ | (simp only [Bx.set_same]; rfl)); dsimp only [Value.cells] at kp32; obtain ⟨gp32, kp32⟩ := kp32
    have mm := HM.out.then0 hr.mod
    have hone : SlAt ic 1 w5 (some ⟨p32, 0, none⟩) [idn y.id] := SlAt.one kp32 (idn y.id) rfl rfl
    have hO5 := HV.out.mod0 hr.mod
    have hlt2 := hO5.lt
    obtain ⟨v3, w6, hap, hO6, m6, hn6⟩ := SlOwn.append intT (c := 1) hO5 hone (by have h1 := HP.out.2.2.2; rw [List.length_singleton]; omega) (by decide) mm.size 79
    have mF : Mod (fun _ => False) w w6 := mm.then m6 (fun i hi e => by have := (hlt2 i e).1; omega)
    rw [List.length_singleton] at hap
    rw [← HP.out.2.1] at hO6
    have HV6 := Lib.hid hO6
    have HM6 := Lib.hid mF
    clear hr hbs hone hO5 hlt2 hO6 m6 hn6 mF mm kp32
    (refine eff_append (by simp only [zK]; rfl) (by rfl) rfl ?hx31 ?hz31 hap ?n31; (case hx31 => simp only [Act.eval, zM]; try rfl); (case hz31 => simp only [Act.eval, zM]; try rfl); try simp only [Act.put, zL])
    (refine TE.val0 (v := ?v32) (by simp only [zK]; rfl) (by rfl) (fun w1 => ?y32) ?n32; (case y32 => go_simp; try with_reducible rfl); try simp only [Act.put, zL])
    refine TE.nil ?_
    clear hap
    go_wp2_with fail
    go_roundw
    case rel => exact ⟨i + 1, _, by omega, by go_num, rfl, HV6, HM6⟩
    case measure => simp [intOf]; omega
   ·have hde : ((y.pl : Int) == 2) = false := by rw [beq_eq_false_iff_ne]; omega
    have HV6 : Hid (SlOwn ic 1 3 wr w.heap.size v (((L.take (i + 1)).filter (fun y => y.pl == 2)).map (fun y => idn y.id))) := Lib.hid (by
     rw [List.take_add_one, HY.out.1, List.filter_append, List.map_append]
     have : ((some y).toList.filter (fun y : Dq => y.pl == 2)) = [] := by simp [hp]
     rw [this, List.map_nil, List.append_nil]
     exact HV.out)
    clear hp
    go_wp2_with fail
    go_roundw
    case rel => exact ⟨i + 1, v, by omega, by go_num, rfl, HV6, HM⟩
    case measure => simp [intOf]; omega
  ·obtain rfl : i = L.length := by omega
   have hv := HV.out
   rw [List.take_length, H.out.2.2.1] at hv
   have HV2 := Lib.hid hv
   clear hv HV
   go_wp2_with fail
   go_ret
   exact ⟨_, rfl, HV2.out, HM.out⟩
end
end Go.Proofs.YtdeghpmlhcaedaaGreatDoor
namespace Go.Proofs.YtdeghpmlhcaedaaGreatDoor
open Go.RowKit Go.Sort
open Go.ChangeMaps (setBlock)
attribute [local go_sem ↓] wlDq ldDq stDq
attribute [local go_sem] cell_blk frozen_blk one_int one_bool one_ptr one_slice one_map Value.cells dqv_size dqv_all dqv_one dqv_one' zDq_size dqv_0 dqv_1 dqv_2 dqv_3 dqv_4
theorem bsD (x : Dq) (w : World) : (Instr.buildSlice 67 1 #[(0, .agg (dqv x))]).run Tryz.prog w = .ok (.slice (some ⟨w.heap.size, 0, none⟩) 1 1) (w.alloc (.cells (dqv x) 86)) := by
 obtain ⟨i0, z, hi, hz, hz1, hz2, hz3⟩ := dqT.info
 have hs : (dqv x).size = 5 := rfl
 refine run_buildSlice w _ _ 1 _ _ i0 _ Tryz.underlying67 hi hz (by rw [hz1]; omega) (by rw [hz1]; omega) ?_
 rw [hz1]
 show Instr.fill _ _ [(0, _)] = _
 rw [fill_cons (off := 0) (n := 5) rfl (by simp [Value.cells, hs]) (by simp)]
 show some (wr _ 0 (dqv x).toList) = _
 rw [wr_whole (dqv x) _ (by simp [hs, hz3])]
section
variable {r n : Nat} {S : List (Option It)} {T : Nat → Prop} {w : World}
set_option maxRecDepth 20000 in
set_option maxHeartbeats 12800000 in
theorem qwait_c (h : RQ r n (docL 0 S) T w) (hS : S.length ≤ 4096) {D : List Nd} (hD : D.Perm (wtg 0 S)) (hSr : Srt D) : Calls Tryz.prog 29 #[ptrV r] w fun e w' => ∃ v, e = .returned v ∧ SlOwn ic 1 3 w' w.heap.size v (D.map Nd.id) ∧ Mod (fun _ => False) w w' := by
 obtain ⟨L, hL⟩ : ∃ L, L = docL 0 S := ⟨_, rfl⟩
 have hlen : L.length ≤ 4096 := by rw [hL]; exact docL_le hS
 have hids : ∀ x ∈ L, x.id ≤ 4096 := by rw [hL]; exact docL_ids hS
 have hnd : ∀ (j j' : Nat) (y z : Dq), L[j]? = some y → L[j']? = some z → y.nd = z.nd → j = j' := by rw [hL]; exact fun j j' y z h1 h2 h3 => docL_nd hS h1 h2 h3
 have hfin : ∀ l, WtI L L.length l → l.map Dq.nd = D := by
  rw [hL]
  exact fun l hl => hl.done hD hSr
 rw [← hL] at h
 obtain ⟨a, c, kr, hs⟩ := h.sl
 have H := Lib.hid (And.intro hs (And.intro hids (And.intro hnd hfin)))
 clear h hs hids hnd hfin hL hS hD hSr
 go_enter Tryz.func29, Tryz.ntmps29
 go_wp2_with fail
 go_loopw [3, 4, 5] (fun s3 s4 _ ws => ∃ (i : Nat) (v : Value) (l : List Dq), i ≤ L.length ∧ s4 = .int .i64 (i : Int) ∧ v = s3 ∧ l.length ≤ i ∧ Hid (SlOwn dqv 5 86 ws w.heap.size v l) ∧ Hid (WtI L i l) ∧ Hid (Mod (fun _ => False) w ws)) (fun _ s4 _ _ => L.length - (intOf s4).toNat)
 case atStart => exact ⟨0, _, [], by omega, rfl, rfl, by simp, Lib.hid (SlOwn.nil _ _), Lib.hid ⟨.nil, by simp⟩, Lib.hid (Mod.refl _ _)⟩
 case round =>
  obtain ⟨i, v, l, hi, rfl, rfl, hli, HV, HWT, HM⟩ := hrel
  have kr := HM.out.at0 kr
  by_cases hlt : i < L.length
  ·obtain ⟨y, hy⟩ : ∃ y, L[i]? = some y := ⟨_, List.getElem?_eq_getElem hlt⟩
   obtain ⟨g, oo, C, U, fr, rfl, kl, he, hle⟩ := (H.out.1.mod0 HM.out).block hy
   obtain ⟨_, _, _, e3, _⟩ := dq_part he
   have hyi := H.out.2.1 y (List.mem_of_getElem? hy)
   by_cases hp : y.pl = 0
   ·have hde : ((y.pl : Int) == 0) = true := by rw [hp]; rfl
    have hde2 : ((y.pl : Int) != 0) = false := by rw [hp]; rfl
    have HY := Lib.hid (And.intro hy (And.intro hyi hp))
    clear hp hy hyi
    obtain ⟨a3, c3, hv3, hs3, _⟩ := HV.out.at dqT
    obtain ⟨m, hm⟩ : ∃ m, l.length = m := ⟨_, rfl⟩
    rw [hm] at hv3 hli
    subst hv3
    have HS3 := Lib.hid hs3
    have HLM := Lib.hid hm
    clear hs3 hm
    obtain ⟨wa, hwa⟩ : ∃ wa : World, wa = wr := ⟨_, rfl⟩
    subst hwa
    go_wp2_with fail
    go_loopw [5] (fun s5 ws => ∃ k : Nat, k ≤ m ∧ s5 = .int .i64 (k : Int) ∧ Hid (∀ (j : Nat) (z : Dq), j < k → l[j]? = some z → nlt z.nd y.nd = true) ∧ Mod (fun _ => False) wa ws) (fun s5 _ => m - (intOf s5).toNat)
    case atStart => exact ⟨0, by omega, rfl, Lib.hid (fun j z hj => absurd hj (Nat.not_lt_zero j)), Mod.refl _ _⟩
    case round =>
     obtain ⟨k, hk, rfl, HG, hmk⟩ := hrel
     replace kr := hmk.at0 kr
     replace kl := hmk.at0 kl
     rw [← HLM.out] at hk
     by_cases hkm : k < m
     ·obtain ⟨z, hz⟩ : ∃ z, l[k]? = some z := ⟨_, List.getElem?_eq_getElem (by rw [HLM.out]; exact hkm)⟩
      obtain ⟨g2, oo2, C2, U2, fr2, rfl, kl2, he2, hle2⟩ := (HS3.out.mod0 hmk).block hz
      have hzi : z.id ≤ 4096 := by
       have h1 := (List.mem_filter.1 (HWT.out.2.mem_iff.1 (List.mem_of_getElem? hz))).1
       exact H.out.2.1 z (List.mem_of_mem_take h1)
      have HZ := Lib.hid (And.intro hz hzi)
      clear hz hzi
      cases hq : nlt z.nd y.nd with
      | true =>
       have HQ := Lib.hid hq
       clear hq
       go_upto_region 7 with fail
       have Lkr := lt_size kr
       have Lkl := lt_size kl
       have Lkl2 := lt_size kl2
       refine wp_pass (C := fun _ _ v => v = .bool true) (κ := fun i => [0, 0, 0, 0, 0, 0, 0, 0, 1, 0, 0, 0, 1, 0, 0, 1, 2, 0].getD i 0) [0, 1, 2, 3, 4, 5, 6, 7, 8, 9, 10, 11, 12, 13, 14, 15, 16, 17] (by kernel_rfl) (by kernel_rfl) (fun _ _ d _ _ h => by cases d <;> first | exact h | exact absurd h (hP _ _ _)) ?_
       (refine TD.val0 (v := ?v1) (by simp only [zK]; rfl) rfl (by rfl) (fun w1 => ?y1) ?n1; (case y1 => go_simp; try with_reducible rfl); try simp only [Act.put, zL])
       (refine TD.val0 (v := ?v2) (by simp only [zK]; rfl) rfl (by rfl) (fun w1 => ?y2) ?n2; (case y2 => go_simp; try with_reducible rfl); try simp only [Act.put, zL])
       (refine TD.val0 (v := ?v3) (by simp only [zK]; rfl) rfl (by rfl) (fun w1 => ?y3) ?n3; (case y3 => go_simp; try with_reducible rfl); try simp only [Act.put, zL])
       (refine TD.val0 (v := ?v4) (by simp only [zK]; rfl) rfl (by rfl) (fun w1 => ?y4) ?n4; (case y4 => go_simp; try with_reducible rfl); try simp only [Act.put, zL])
       (refine TD.val0 (v := ?v5) (by simp only [zK]; rfl) rfl (by rfl) (fun w1 => ?y5) ?n5; (case y5 => go_simp; try with_reducible rfl); try simp only [Act.put, zL])
       (refine TD.val0 (v := ?v6) (by simp only [zK]; rfl) rfl (by rfl) (fun w1 => ?y6) ?n6; (case y6 => go_simp; try with_reducible rfl); try simp only [Act.put, zL])
       (refine TD.val0 (v := ?v7) (by simp only [zK]; rfl) rfl (by rfl) (fun w1 => ?y7) ?n7; (case y7 => go_simp; try with_reducible rfl); try simp only [Act.put, zL])
       (refine TD.val0 (v := ?v8) (by simp only [zK]; rfl) rfl (by rfl) (fun w1 => ?y8) ?n8; (case y8 => go_simp; try with_reducible rfl); try simp only [Act.put, zL])
       (refine TD.load (v := ?v9) (p := ?p9) (Mod.refl _ _) (by simp only [zK]; rfl) rfl (by rfl) rfl ?hx9 (fun wq hSq => ?y9) ?n9; (case hx9 => simp only [Act.eval, zM]; try rfl); (case y9 => (have krq := hSq.at kr (fun h => h); have klq := hSq.at kl (fun h => h); have kl2q := hSq.at kl2 (fun h => h); go_simp; (try with_reducible rfl))); try simp only [Act.put, zL])
       (refine TD.val0 (v := ?v10) (by simp only [zK]; rfl) rfl (by rfl) (fun w1 => ?y10) ?n10; (case y10 => go_simp; try with_reducible rfl); try simp only [Act.put, zL])
       (refine TD.val0 (v := ?v11) (by simp only [zK]; rfl) rfl (by rfl) (fun w1 => ?y11) ?n11; (case y11 => go_simp; try with_reducible rfl); try simp only [Act.put, zL])
       (refine TD.val0 (v := ?v12) (by simp only [zK]; rfl) rfl (by rfl) (fun w1 => ?y12) ?n12; (case y12 => go_simp; try with_reducible rfl); try simp only [Act.put, zL])
       (refine TD.load (v := ?v13) (p := ?p13) (Mod.refl _ _) (by simp only [zK]; rfl) rfl (by rfl) rfl ?hx13 (fun wq hSq => ?y13) ?n13; (case hx13 => simp only [Act.eval, zM]; try rfl); (case y13 => (have krq := hSq.at kr (fun h => h); have klq := hSq.at kl (fun h => h); have kl2q := hSq.at kl2 (fun h => h); go_simp; (try with_reducible rfl))); try simp only [Act.put, zL])
       (refine TD.val0 (v := ?v14) (by simp only [zK]; rfl) rfl (by rfl) (fun w1 => ?y14) ?n14; (case y14 => go_simp; try with_reducible rfl); try simp only [Act.put, zL])
       (refine TD.val0 (v := ?v15) (by simp only [zK]; rfl) rfl (by rfl) (fun w1 => ?y15) ?n15; (case y15 => go_simp; try with_reducible rfl); try simp only [Act.put, zL])
       (refine TD.load (v := ?v16) (p := ?p16) (Mod.refl _ _) (by simp only [zK]; rfl) rfl (by rfl) rfl ?hx16 (fun wq hSq => ?y16) ?n16; (case hx16 => simp only [Act.eval, zM]; try rfl); (case y16 => (have krq := hSq.at kr (fun h => h); have klq := hSq.at kl (fun h => h); have kl2q := hSq.at kl2 (fun h => h); go_simp; (try with_reducible rfl))); try simp only [Act.put, zL])
       (refine TD.call (f := ?f17) (args := ?r17) (Mod.refl _ _) (by simp only [zK]; rfl) rfl (by rfl) (fun w1 => ?y17) ?hsp17 ?n17; (case y17 => (go_simp; (first | with_reducible rfl | (constructor <;> with_reducible rfl)))); (case hsp17 => (intro wq hSq; have krq := hSq.at kr (fun h => h); have klq := hSq.at kl (fun h => h); have kl2q := hSq.at kl2 (fun h => h); exact (qahead_c z y HZ.out.2 HY.out.2.1 wq).mono (fun e w' h => ⟨_, h.1, by rw [HQ.out], h.2⟩))); rintro _ rfl; try simp only [Act.put, zL])
       (refine TD.val0 (v := ?v18) (by simp only [zK]; rfl) rfl (by rfl) (fun w1 => ?y18) ?n18; (case y18 => go_simp; try with_reducible rfl); try simp only [Act.put, zL])
       refine TD.nil (fun w7 hr => ?_)
       have kr := hr.mod.at kr (fun h => h)
       have kl := hr.mod.at kl (fun h => h)
       have kl2 := hr.mod.at kl2 (fun h => h)
       have mm := hmk.then0 hr.mod
       clear hr
       go_wp2_with fail
       go_roundw
       case rel => exact ⟨k + 1, by omega, by go_num, Lib.hid (fun j x hj hx => by
        by_cases e : j = k
        ·subst e
         rw [HZ.out.1] at hx
         cases hx
         exact HQ.out
        ·exact HG.out j x (by omega) hx), mm⟩
       case measure => simp [intOf]; omega
      | false =>
       have HQ := Lib.hid hq
       have HSTOP : Hid (∀ x, l[k]? = some x → nlt x.nd y.nd = false) := Lib.hid (fun x hx => by
        rw [HZ.out.1] at hx
        cases hx
        exact HQ.out)
       clear hq
       go_upto_region 7 with fail
       have Lkr := lt_size kr
       have Lkl := lt_size kl
       have Lkl2 := lt_size kl2
       refine wp_pass (C := fun _ _ v => v = .bool false) (κ := fun i => [0, 0, 0, 0, 0, 0, 0, 0, 1, 0, 0, 0, 1, 0, 0, 1, 2, 0].getD i 0) [0, 1, 2, 3, 4, 5, 6, 7, 8, 9, 10, 11, 12, 13, 14, 15, 16, 17] (by kernel_rfl) (by kernel_rfl) (fun _ _ d _ _ h => by cases d <;> first | exact h | exact absurd h (hP _ _ _)) ?_
       (refine TD.val0 (v := ?v19) (by simp only [zK]; rfl) rfl (by rfl) (fun w1 => ?y19) ?n19; (case y19 => go_simp; try with_reducible rfl); try simp only [Act.put, zL])
       (refine TD.val0 (v := ?v20) (by simp only [zK]; rfl) rfl (by rfl) (fun w1 => ?y20) ?n20; (case y20 => go_simp; try with_reducible rfl); try simp only [Act.put, zL])
       (refine TD.val0 (v := ?v21) (by simp only [zK]; rfl) rfl (by rfl) (fun w1 => ?y21) ?n21; (case y21 => go_simp; try with_reducible rfl); try simp only [Act.put, zL])
       (refine TD.val0 (v := ?v22) (by simp only [zK]; rfl) rfl (by rfl) (fun w1 => ?y22) ?n22; (case y22 => go_simp; try with_reducible rfl); try simp only [Act.put, zL])
       (refine TD.val0 (v := ?v23) (by simp only [zK]; rfl) rfl (by rfl) (fun w1 => ?y23) ?n23; (case y23 => go_simp; try with_reducible rfl); try simp only [Act.put, zL])
       (refine TD.val0 (v := ?v24) (by simp only [zK]; rfl) rfl (by rfl) (fun w1 => ?y24) ?n24; (case y24 => go_simp; try with_reducible rfl); try simp only [Act.put, zL])
       (refine TD.val0 (v := ?v25) (by simp only [zK]; rfl) rfl (by rfl) (fun w1 => ?y25) ?n25; (case y25 => go_simp; try with_reducible rfl); try simp only [Act.put, zL])
       (refine TD.val0 (v := ?v26) (by simp only [zK]; rfl) rfl (by rfl) (fun w1 => ?y26) ?n26; (case y26 => go_simp; try with_reducible rfl); try simp only [Act.put, zL])
       (refine TD.load (v := ?v27) (p := ?p27) (Mod.refl _ _) (by simp only [zK]; rfl) rfl (by rfl) rfl ?hx27 (fun wq hSq => ?y27) ?n27; (case hx27 => simp only [Act.eval, zM]; try rfl); (case y27 => (have krq := hSq.at kr (fun h => h); have klq := hSq.at kl (fun h => h); have kl2q := hSq.at kl2 (fun h => h); go_simp; (try with_reducible rfl))); try simp only [Act.put, zL])
       (refine TD.val0 (v := ?v28) (by simp only [zK]; rfl) rfl (by rfl) (fun w1 => ?y28) ?n28; (case y28 => go_simp; try with_reducible rfl); try simp only [Act.put, zL])
       (refine TD.val0 (v := ?v29) (by simp only [zK]; rfl) rfl (by rfl) (fun w1 => ?y29) ?n29; (case y29 => go_simp; try with_reducible rfl); try simp only [Act.put, zL])
       (refine TD.val0 (v := ?v30) (by simp only [zK]; rfl) rfl (by rfl) (fun w1 => ?y30) ?n30; (case y30 => go_simp; try with_reducible rfl); try simp only [Act.put, zL])
       (refine TD.load (v := ?v31) (p := ?p31) (Mod.refl _ _) (by simp only [zK]; rfl) rfl (by rfl) rfl ?hx31 (fun wq hSq => ?y31) ?n31; (case hx31 => simp only [Act.eval, zM]; try rfl); (case y31 => (have krq := hSq.at kr (fun h => h); have klq := hSq.at kl (fun h => h); have kl2q := hSq.at kl2 (fun h => h); go_simp; (try with_reducible rfl))); try simp only [Act.put, zL])
       (refine TD.val0 (v := ?v32) (by simp only [zK]; rfl) rfl (by rfl) (fun w1 => ?y32) ?n32; (case y32 => go_simp; try with_reducible rfl); try simp only [Act.put, zL])
       (refine TD.val0 (v := ?v33) (by simp only [zK]; rfl) rfl (by rfl) (fun w1 => ?y33) ?n33; (case y33 => go_simp; try with_reducible rfl); try simp only [Act.put, zL])
       (refine TD.load (v := ?v34) (p := ?p34) (Mod.refl _ _) (by simp only [zK]; rfl) rfl (by rfl) rfl ?hx34 (fun wq hSq => ?y34) ?n34; (case hx34 => simp only [Act.eval, zM]; try rfl); (case y34 => (have krq := hSq.at kr (fun h => h); have klq := hSq.at kl (fun h => h); have kl2q := hSq.at kl2 (fun h => h); go_simp; (try with_reducible rfl))); try simp only [Act.put, zL])
       (refine TD.call (f := ?f35) (args := ?r35) (Mod.refl _ _) (by simp only [zK]; rfl) rfl (by rfl) (fun w1 => ?y35) ?hsp35 ?n35; (case y35 => (go_simp; (first | with_reducible rfl | (constructor <;> with_reducible rfl)))); (case hsp35 => (intro wq hSq; have krq := hSq.at kr (fun h => h); have klq := hSq.at kl (fun h => h); have kl2q := hSq.at kl2 (fun h => h); exact (qahead_c z y HZ.out.2 HY.out.2.1 wq).mono (fun e w' h => ⟨_, h.1, by rw [HQ.out], h.2⟩))); rintro _ rfl; try simp only [Act.put, zL])
       (refine TD.val0 (v := ?v36) (by simp only [zK]; rfl) rfl (by rfl) (fun w1 => ?y36) ?n36; (case y36 => go_simp; try with_reducible rfl); try simp only [Act.put, zL])
       refine TD.nil (fun w7 hr => ?_)
       have kr := hr.mod.at kr (fun h => h)
       have kl := hr.mod.at kl (fun h => h)
       have kl2 := hr.mod.at kl2 (fun h => h)
       clear kl2 he2 hle2
       have mw := (HM.out.then0 hmk).then0 hr.mod
       have hKK : k ≤ l.length := hk
       have HW1 : Hid (WtI L (i + 1) (l.take k ++ [y] ++ l.drop k)) := Lib.hid (WtI.ins H.out.2.2.1 HWT.out HY.out.1 HY.out.2.2 hKK HG.out HSTOP.out)
       have hO3 := (HV.out.mod0 hmk).mod0 hr.mod
       obtain ⟨at1, ct1, hq1, hs1, _⟩ := own_takeR dqT hO3 hKK
       obtain ⟨at2, ct2, hq2, hs2, _⟩ := own_dropR dqT hO3 hKK
       have hkl : (l.take k).length = k := by rw [List.length_take]; omega
       have hdl : (l.drop k).length = m - k := by rw [List.length_drop, HLM.out]
       rw [hdl] at hq2
       have HS := Lib.hid (And.intro hs1 (And.intro hs2 (And.intro hkl hdl)))
       have hbd := bsD y
       have sw := mw.size
       clear hs1 hs2 hr hO3 hkl hdl hmk hKK
       go_upto_region 9 with fail
       have Lkr := lt_size kr
       have Lkl := lt_size kl
       refine wp_gpass (T0 := fun _ => False) (K := fun _ _ => True) (κ := fun i => [0, 0, 0, 6, 0, 0, 0, 0, 0, 0, 0, 3, 6, 0, 0, 0, 6, 0].getD i 0) (υ := fun i => [[], [], [], [], [], [], [], [], [], [], [], [], [57], [], [], [], [], []].getD i []) [0, 1, 2, 3, 4, 5, 6, 7, 8, 9, 10, 11, 12, 13, 14, 15, 16, 17] (by kernel_rfl) (by kernel_rfl) (Good.true).cl (trivial) (fun _ h => h.elim) ?_
       have gK := Good.true
       (refine TG.v0 (v := ?v37) (by simp only [zK]; rfl) rfl (by rfl) (fun w1 => ?y37) ?n37; (case y37 => go_simp; try with_reducible rfl); try simp only [Act.put, zL])
       (refine TG.v0 (v := ?v38) (by simp only [zK]; rfl) rfl (by rfl) (fun w1 => ?y38) ?n38; (case y38 => go_simp; try with_reducible rfl); try simp only [Act.put, zL])
       (refine TG.slice (by simp only [zK]; rfl) rfl (by rfl) rfl ?hs39 ?hl39 ?hh39 ?hm39 hq1 ?n39; (case hs39 => simp only [Act.eval, zM]; try rfl); (case hl39 => first | rfl | (simp only [Option.map_some, Act.eval, zM]; (try rfl))); (case hh39 => first | rfl | (simp only [Option.map_some, Act.eval, zM]; (try rfl))); (case hm39 => rfl); try simp only [Act.put, zL])
       (refine TG.appK (X := ?X40) (Y := ?Y40) (OwnD w.heap.size (l.take k)) (goodOwnD w.heap.size (l.take k)) (by simp only [zK]; rfl) rfl (by rfl) rfl ?hx40 ?hz40 (fun T wq kq ltq hSq ub => ?y40) ?n40; (case hx40 => simp only [Act.eval, zM]; try rfl); (case hz40 => simp only [Act.eval, zM]; try rfl); (case y40 => (have krq := hSq.at kr (fun h => h); have klq := hSq.at kl (fun h => h); have hh := app_nilD (B0 := w.heap.size) (c := ct1) (T := T) (HS.out.1.mod0 hSq) (by rw [HS.out.2.2.1]; omega) (Nat.le_trans sw hSq.size); rw [HS.out.2.2.1] at hh; exact hh)); rintro v40 ⟨wI, TI, hI⟩; replace gK := (goodOwnD w.heap.size (l.take k)) v40; skip; (try clear hI TI wI); try simp only [Act.put, zL])
       (refine TG.v0 (v := ?v41) (by simp only [zK]; rfl) rfl (by rfl) (fun w1 => ?y41) ?n41; (case y41 => go_simp; try with_reducible rfl); try simp only [Act.put, zL])
       (refine TG.v0 (v := ?v42) (by simp only [zK]; rfl) rfl (by rfl) (fun w1 => ?y42) ?n42; (case y42 => go_simp; try with_reducible rfl); try simp only [Act.put, zL])
       (refine TG.v0 (v := ?v43) (by simp only [zK]; rfl) rfl (by rfl) (fun w1 => ?y43) ?n43; (case y43 => go_simp; try with_reducible rfl); try simp only [Act.put, zL])
       (refine TG.load (v := ?v44) (p := ?p44) (by simp only [zK]; rfl) rfl (by rfl) rfl ?hx44 (fun wq hSq => ?y44) ?n44; (case hx44 => simp only [Act.eval, zM]; try rfl); (case y44 => (have krq := hSq.at kr (fun h => h); have klq := hSq.at kl (fun h => h); go_simp; (try with_reducible rfl))); try simp only [Act.put, zL])
       (refine TG.v0 (v := ?v45) (by simp only [zK]; rfl) rfl (by rfl) (fun w1 => ?y45) ?n45; (case y45 => go_simp; try with_reducible rfl); try simp only [Act.put, zL])
       (refine TG.v0 (v := ?v46) (by simp only [zK]; rfl) rfl (by rfl) (fun w1 => ?y46) ?n46; (case y46 => go_simp; try with_reducible rfl); try simp only [Act.put, zL])
       (refine TG.load (v := ?v47) (p := ?p47) (by simp only [zK]; rfl) rfl (by rfl) rfl ?hx47 (fun wq hSq => ?y47) ?n47; (case hx47 => simp only [Act.eval, zM]; try rfl); (case y47 => (have krq := hSq.at kr (fun h => h); have klq := hSq.at kl (fun h => h); go_simp; (try with_reducible rfl))); try simp only [Act.put, zL])
       (refine TG.bslice (by simp only [zK]; rfl) rfl (by rfl) rfl rfl ?hx48 hbd (fun p57 hp57 _ => ?n48); (case hx48 => (simp only [List.map_toArray, List.map_cons, List.map_nil, Act.eval, zM]; (try rfl))); try simp only [Act.put, zL])
       (refine TG.appK (X := ?X49) (Y := ?Y49) (OwnD w.heap.size (l.take k ++ [y])) (goodOwnD w.heap.size (l.take k ++ [y])) (by simp only [zK]; rfl) rfl (by rfl) rfl ?hx49 ?hz49 (fun T wq kq ltq hSq ub => ?y49) ?n49; (case hx49 => simp only [Act.eval, zM]; try rfl); (case hz49 => simp only [Act.eval, zM]; try rfl); (case y49 => (have krq := hSq.at kr (fun h => h); have klq := hSq.at kl (fun h => h); have kp57 := ub.box (p := p57) (by first | exact Bx.set_same _ _ _ | (simp only [Bx.set_same]; rfl)) (by first | decide | exact List.mem_singleton.2 rfl | simp); dsimp only [Value.cells] at kp57; have nUp57 := (ub p57 _ (by first | exact Bx.set_same _ _ _ | (simp only [Bx.set_same]; rfl)) (by first | decide | exact List.mem_singleton.2 rfl | simp)).1; exact app_ownD (c := 1) (q := [y]) kq (SlAt.one kp57 y rfl rfl) (by rw [HS.out.2.2.1, List.length_singleton]; omega) (Nat.le_trans sw hSq.size))); rintro v49 ⟨wI, TI, hI⟩; replace gK := (goodOwnD w.heap.size (l.take k ++ [y])) v49; skip; (try clear hI TI wI); try simp only [Act.put, zL])
       (refine TG.v0 (v := ?v50) (by simp only [zK]; rfl) rfl (by rfl) (fun w1 => ?y50) ?n50; (case y50 => go_simp; try with_reducible rfl); try simp only [Act.put, zL])
       (refine TG.v0 (v := ?v51) (by simp only [zK]; rfl) rfl (by rfl) (fun w1 => ?y51) ?n51; (case y51 => go_simp; try with_reducible rfl); try simp only [Act.put, zL])
       (refine TG.slice (by simp only [zK]; rfl) rfl (by rfl) rfl ?hs52 ?hl52 ?hh52 ?hm52 hq2 ?n52; (case hs52 => simp only [Act.eval, zM]; try rfl); (case hl52 => first | rfl | (simp only [Option.map_some, Act.eval, zM]; (try rfl))); (case hh52 => first | rfl | (simp only [Option.map_some, Act.eval, zM]; (try rfl))); (case hm52 => rfl); try simp only [Act.put, zL])
       (refine TG.appK (X := ?X53) (Y := ?Y53) (OwnD w.heap.size (l.take k ++ [y] ++ l.drop k)) (goodOwnD w.heap.size (l.take k ++ [y] ++ l.drop k)) (by simp only [zK]; rfl) rfl (by rfl) rfl ?hx53 ?hz53 (fun T wq kq ltq hSq ub => ?y53) ?n53; (case hx53 => simp only [Act.eval, zM]; try rfl); (case hz53 => simp only [Act.eval, zM]; try rfl); (case y53 => (have krq := hSq.at kr (fun h => h); have klq := hSq.at kl (fun h => h); have hh := app_ownD (c := ct2) kq (HS.out.2.1.mod0 hSq) (by rw [List.length_append, HS.out.2.2.1, HS.out.2.2.2, List.length_singleton]; omega) (Nat.le_trans sw hSq.size); rw [HS.out.2.2.2] at hh; exact hh)); rintro v53 ⟨wI, TI, hI⟩; replace gK := (goodOwnD w.heap.size (l.take k ++ [y] ++ l.drop k)) v53; skip; (try clear hI TI wI); try simp only [Act.put, zL])
       (refine TG.v0 (v := ?v54) (by simp only [zK]; rfl) rfl (by rfl) (fun w1 => ?y54) ?n54; (case y54 => go_simp; try with_reducible rfl); try simp only [Act.put, zL])
       refine TG.nil (fun w9 ⟨TR, hr⟩ => ?_)
       have kr := hr.mod.at kr (fun h => h)
       have kl := hr.mod.at kl (fun h => h)
       have kp57 := hr.box p57 _ (by first | exact Bx.set_same _ _ _ | (simp only [Bx.set_same]; rfl)); dsimp only [Value.cells] at kp57; obtain ⟨gp57, nTp57, kp57⟩ := kp57
       clear gK
       have m9 := mw.then0 hr.mod
       have HV9 := Lib.hid hr.k.1
       have HM9 := Lib.hid m9
       have HL9 : Hid ((l.take k ++ [y] ++ l.drop k).length ≤ i + 1) := Lib.hid (by rw [List.length_append, List.length_append, HS.out.2.2.1, HS.out.2.2.2, List.length_singleton]; omega)
       clear hr m9 mw sw hq1 hq2 hbd
       go_wp2_with fail
       go_roundw
       case rel => exact ⟨i + 1, _, l.take k ++ [y] ++ l.drop k, by omega, by go_num, rfl, HL9.out, HV9, HW1, HM9⟩
       case measure => simp [intOf]; omega
     ·have hkeq : m = k := by have := HLM.out; omega
      subst hkeq
      have HSTOP : Hid (∀ x, l[m]? = some x → nlt x.nd y.nd = false) := Lib.hid (fun x hx => by
       have h1 := (List.getElem?_eq_some_iff.1 hx).1
       rw [HLM.out] at h1
       omega)
      go_upto_region 7 with fail
      have Lkr := lt_size kr
      have Lkl := lt_size kl
      refine wp_pass (C := fun _ _ _ => False) (κ := fun i => [0, 0, 0, 0, 0, 0, 0, 0, 0, 0, 0, 0, 0, 0, 0, 0, 0, 0].getD i 0) [0, 1, 2, 3, 4, 5, 6, 7, 8, 9, 10, 11, 12, 13, 14, 15, 16, 17] (by kernel_rfl) (by kernel_rfl) (fun _ _ d _ _ h => by cases d <;> first | exact h | exact absurd h (hP _ _ _)) ?_
      (refine TD.val0 (v := ?v55) (by simp only [zK]; rfl) rfl (by rfl) (fun w1 => ?y55) ?n55; (case y55 => go_simp; try with_reducible rfl); try simp only [Act.put, zL])
      (refine TD.val0 (v := ?v56) (by simp only [zK]; rfl) rfl (by rfl) (fun w1 => ?y56) ?n56; (case y56 => go_simp; try with_reducible rfl); try simp only [Act.put, zL])
      (refine TD.val0 (v := ?v57) (by simp only [zK]; rfl) rfl (by rfl) (fun w1 => ?y57) ?n57; (case y57 => go_simp; try with_reducible rfl); try simp only [Act.put, zL])
      (refine TD.val0 (v := ?v58) (by simp only [zK]; rfl) rfl (by rfl) (fun w1 => ?y58) ?n58; (case y58 => go_simp; try with_reducible rfl); try simp only [Act.put, zL])
      (refine TD.val0 (v := ?v59) (by simp only [zK]; rfl) rfl (by rfl) (fun w1 => ?y59) ?n59; (case y59 => go_simp; try with_reducible rfl); try simp only [Act.put, zL])
      (refine TD.pass (by simp only [zK]; rfl) rfl (by rfl) ?n60; try simp only [Act.put, zL])
      (refine TD.pass (by simp only [zK]; rfl) rfl (by rfl) ?n61; try simp only [Act.put, zL])
      (refine TD.pass (by simp only [zK]; rfl) rfl (by rfl) ?n62; try simp only [Act.put, zL])
      (refine TD.pass (by simp only [zK]; rfl) rfl (by rfl) ?n63; try simp only [Act.put, zL])
      (refine TD.pass (by simp only [zK]; rfl) rfl (by rfl) ?n64; try simp only [Act.put, zL])
      (refine TD.pass (by simp only [zK]; rfl) rfl (by rfl) ?n65; try simp only [Act.put, zL])
      (refine TD.pass (by simp only [zK]; rfl) rfl (by rfl) ?n66; try simp only [Act.put, zL])
      (refine TD.pass (by simp only [zK]; rfl) rfl (by rfl) ?n67; try simp only [Act.put, zL])
      (refine TD.pass (by simp only [zK]; rfl) rfl (by rfl) ?n68; try simp only [Act.put, zL])
      (refine TD.pass (by simp only [zK]; rfl) rfl (by rfl) ?n69; try simp only [Act.put, zL])
      (refine TD.pass (by simp only [zK]; rfl) rfl (by rfl) ?n70; try simp only [Act.put, zL])
      (refine TD.pass (by simp only [zK]; rfl) rfl (by rfl) ?n71; try simp only [Act.put, zL])
      (refine TD.val0 (v := ?v72) (by simp only [zK]; rfl) rfl (by rfl) (fun w1 => ?y72) ?n72; (case y72 => go_simp; try with_reducible rfl); try simp only [Act.put, zL])
      refine TD.nil (fun w7 hr => ?_)
      have kr := hr.mod.at kr (fun h => h)
      have kl := hr.mod.at kl (fun h => h)
      have mw := (HM.out.then0 hmk).then0 hr.mod
      have hKK : m ≤ l.length := hk
      have HW1 : Hid (WtI L (i + 1) (l.take m ++ [y] ++ l.drop m)) := Lib.hid (WtI.ins H.out.2.2.1 HWT.out HY.out.1 HY.out.2.2 hKK HG.out HSTOP.out)
      have hO3 := (HV.out.mod0 hmk).mod0 hr.mod
      obtain ⟨at1, ct1, hq1, hs1, _⟩ := own_takeR dqT hO3 hKK
      obtain ⟨at2, ct2, hq2, hs2, _⟩ := own_dropR dqT hO3 hKK
      have hkl : (l.take m).length = m := by rw [List.length_take]; omega
      have hdl : (l.drop m).length = m - m := by rw [List.length_drop, HLM.out]
      rw [hdl] at hq2
      have HS := Lib.hid (And.intro hs1 (And.intro hs2 (And.intro hkl hdl)))
      have hbd := bsD y
      have sw := mw.size
      clear hs1 hs2 hr hO3 hkl hdl hmk hKK
      go_upto_region 9 with fail
      have Lkr := lt_size kr
      have Lkl := lt_size kl
      refine wp_gpass (T0 := fun _ => False) (K := fun _ _ => True) (κ := fun i => [0, 0, 0, 6, 0, 0, 0, 0, 0, 0, 0, 3, 6, 0, 0, 0, 6, 0].getD i 0) (υ := fun i => [[], [], [], [], [], [], [], [], [], [], [], [], [57], [], [], [], [], []].getD i []) [0, 1, 2, 3, 4, 5, 6, 7, 8, 9, 10, 11, 12, 13, 14, 15, 16, 17] (by kernel_rfl) (by kernel_rfl) (Good.true).cl (trivial) (fun _ h => h.elim) ?_
      have gK := Good.true
      (refine TG.v0 (v := ?v73) (by simp only [zK]; rfl) rfl (by rfl) (fun w1 => ?y73) ?n73; (case y73 => go_simp; try with_reducible rfl); try simp only [Act.put, zL])
      (refine TG.v0 (v := ?v74) (by simp only [zK]; rfl) rfl (by rfl) (fun w1 => ?y74) ?n74; (case y74 => go_simp; try with_reducible rfl); try simp only [Act.put, zL])
      (refine TG.slice (by simp only [zK]; rfl) rfl (by rfl) rfl ?hs75 ?hl75 ?hh75 ?hm75 hq1 ?n75; (case hs75 => simp only [Act.eval, zM]; try rfl); (case hl75 => first | rfl | (simp only [Option.map_some, Act.eval, zM]; (try rfl))); (case hh75 => first | rfl | (simp only [Option.map_some, Act.eval, zM]; (try rfl))); (case hm75 => rfl); try simp only [Act.put, zL])
      (refine TG.appK (X := ?X76) (Y := ?Y76) (OwnD w.heap.size (l.take m)) (goodOwnD w.heap.size (l.take m)) (by simp only [zK]; rfl) rfl (by rfl) rfl ?hx76 ?hz76 (fun T wq kq ltq hSq ub => ?y76) ?n76; (case hx76 => simp only [Act.eval, zM]; try rfl); (case hz76 => simp only [Act.eval, zM]; try rfl); (case y76 => (have krq := hSq.at kr (fun h => h); have klq := hSq.at kl (fun h => h); have hh := app_nilD (B0 := w.heap.size) (c := ct1) (T := T) (HS.out.1.mod0 hSq) (by rw [HS.out.2.2.1]; omega) (Nat.le_trans sw hSq.size); rw [HS.out.2.2.1] at hh; exact hh)); rintro v76 ⟨wI, TI, hI⟩; replace gK := (goodOwnD w.heap.size (l.take m)) v76; skip; (try clear hI TI wI); try simp only [Act.put, zL])
      (refine TG.v0 (v := ?v77) (by simp only [zK]; rfl) rfl (by rfl) (fun w1 => ?y77) ?n77; (case y77 => go_simp; try with_reducible rfl); try simp only [Act.put, zL])
      (refine TG.v0 (v := ?v78) (by simp only [zK]; rfl) rfl (by rfl) (fun w1 => ?y78) ?n78; (case y78 => go_simp; try with_reducible rfl); try simp only [Act.put, zL])
      (refine TG.v0 (v := ?v79) (by simp only [zK]; rfl) rfl (by rfl) (fun w1 => ?y79) ?n79; (case y79 => go_simp; try with_reducible rfl); try simp only [Act.put, zL])
      (refine TG.load (v := ?v80) (p := ?p80) (by simp only [zK]; rfl) rfl (by rfl) rfl ?hx80 (fun wq hSq => ?y80) ?n80; (case hx80 => simp only [Act.eval, zM]; try rfl); (case y80 => (have krq := hSq.at kr (fun h => h); have klq := hSq.at kl (fun h => h); go_simp; (try with_reducible rfl))); try simp only [Act.put, zL])
      (refine TG.v0 (v := ?v81) (by simp only [zK]; rfl) rfl (by rfl) (fun w1 => ?y81) ?n81; (case y81 => go_simp; try with_reducible rfl); try simp only [Act.put, zL])
      (refine TG.v0 (v := ?v82) (by simp only [zK]; rfl) rfl (by rfl) (fun w1 => ?y82) ?n82; (case y82 => go_simp; try with_reducible rfl); try simp only [Act.put, zL])
      (refine TG.load (v := ?v83) (p := ?p83) (by simp only [zK]; rfl) rfl (by rfl) rfl ?hx83 (fun wq hSq => ?y83) ?n83; (case hx83 => simp only [Act.eval, zM]; try rfl); (case y83 => (have krq := hSq.at kr (fun h => h); have klq := hSq.at kl (fun h => h); go_simp; (try with_reducible rfl))); try simp only [Act.put, zL])
      (refine TG.bslice (by simp only [zK]; rfl) rfl (by rfl) rfl rfl ?hx84 hbd (fun p57 hp57 _ => ?n84); (case hx84 => (simp only [List.map_toArray, List.map_cons, List.map_nil, Act.eval, zM]; (try rfl))); try simp only [Act.put, zL])
      (refine TG.appK (X := ?X85) (Y := ?Y85) (OwnD w.heap.size (l.take m ++ [y])) (goodOwnD w.heap.size (l.take m ++ [y])) (by simp only [zK]; rfl) rfl (by rfl) rfl ?hx85 ?hz85 (fun T wq kq ltq hSq ub => ?y85) ?n85; (case hx85 => simp only [Act.eval, zM]; try rfl); (case hz85 => simp only [Act.eval, zM]; try rfl); (case y85 => (have krq := hSq.at kr (fun h => h); have klq := hSq.at kl (fun h => h); have kp57 := ub.box (p := p57) (by first | exact Bx.set_same _ _ _ | (simp only [Bx.set_same]; rfl)) (by first | decide | exact List.mem_singleton.2 rfl | simp); dsimp only [Value.cells] at kp57; have nUp57 := (ub p57 _ (by first | exact Bx.set_same _ _ _ | (simp only [Bx.set_same]; rfl)) (by first | decide | exact List.mem_singleton.2 rfl | simp)).1; exact app_ownD (c := 1) (q := [y]) kq (SlAt.one kp57 y rfl rfl) (by rw [HS.out.2.2.1, List.length_singleton]; omega) (Nat.le_trans sw hSq.size))); rintro v85 ⟨wI, TI, hI⟩; replace gK := (goodOwnD w.heap.size (l.take m ++ [y])) v85; skip; (try clear hI TI wI); try simp only [Act.put, zL])
      (refine TG.v0 (v := ?v86) (by simp only [zK]; rfl) rfl (by rfl) (fun w1 => ?y86) ?n86; (case y86 => go_simp; try with_reducible rfl); try simp only [Act.put, zL])
      (refine TG.v0 (v := ?v87) (by simp only [zK]; rfl) rfl (by rfl) (fun w1 => ?y87) ?n87; (case y87 => go_simp; try with_reducible rfl); try simp only [Act.put, zL])
      (refine TG.slice (by simp only [zK]; rfl) rfl (by rfl) rfl ?hs88 ?hl88 ?hh88 ?hm88 hq2 ?n88; (case hs88 => simp only [Act.eval, zM]; try rfl); (case hl88 => first | rfl | (simp only [Option.map_some, Act.eval, zM]; (try rfl))); (case hh88 => first | rfl | (simp only [Option.map_some, Act.eval, zM]; (try rfl))); (case hm88 => rfl); try simp only [Act.put, zL])
      (refine TG.appK (X := ?X89) (Y := ?Y89) (OwnD w.heap.size (l.take m ++ [y] ++ l.drop m)) (goodOwnD w.heap.size (l.take m ++ [y] ++ l.drop m)) (by simp only [zK]; rfl) rfl (by rfl) rfl ?hx89 ?hz89 (fun T wq kq ltq hSq ub => ?y89) ?n89; (case hx89 => simp only [Act.eval, zM]; try rfl); (case hz89 => simp only [Act.eval, zM]; try rfl); (case y89 => (have krq := hSq.at kr (fun h => h); have klq := hSq.at kl (fun h => h); have hh := app_ownD (c := ct2) kq (HS.out.2.1.mod0 hSq) (by rw [List.length_append, HS.out.2.2.1, HS.out.2.2.2, List.length_singleton]; omega) (Nat.le_trans sw hSq.size); rw [HS.out.2.2.2] at hh; exact hh)); rintro v89 ⟨wI, TI, hI⟩; replace gK := (goodOwnD w.heap.size (l.take m ++ [y] ++ l.drop m)) v89; skip; (try clear hI TI wI); try simp only [Act.put, zL])
      (refine TG.v0 (v := ?v90) (by simp only [zK]; rfl) rfl (by rfl) (fun w1 => ?y90) ?n90; (case y90 => go_simp; try with_reducible rfl); try simp only [Act.put, zL])
      refine TG.nil (fun w9 ⟨TR, hr⟩ => ?_)
      have kr := hr.mod.at kr (fun h => h)
      have kl := hr.mod.at kl (fun h => h)
      have kp57 := hr.box p57 _ (by first | exact Bx.set_same _ _ _ | (simp only [Bx.set_same]; rfl)); dsimp only [Value.cells] at kp57; obtain ⟨gp57, nTp57, kp57⟩ := kp57
      clear gK
      have m9 := mw.then0 hr.mod
      have HV9 := Lib.hid hr.k.1
      have HM9 := Lib.hid m9
      have HL9 : Hid ((l.take m ++ [y] ++ l.drop m).length ≤ i + 1) := Lib.hid (by rw [List.length_append, List.length_append, HS.out.2.2.1, HS.out.2.2.2, List.length_singleton]; omega)
      clear hr m9 mw sw hq1 hq2 hbd
      go_wp2_with fail
      go_roundw
      case rel => exact ⟨i + 1, _, l.take m ++ [y] ++ l.drop m, by omega, by go_num, rfl, HL9.out, HV9, HW1, HM9⟩
      case measure => simp [intOf]; omega
   ·have hde : ((y.pl : Int) == 0) = false := by rw [beq_eq_false_iff_ne]; omega
    have hde2 : ((y.pl : Int) != 0) = true := by rw [bne_iff_ne]; omega
    have HW1 : Hid (WtI L (i + 1) l) := Lib.hid (HWT.out.skip hy hp)
    clear hp hy he
    go_wp2_with fail
    go_roundw
    case rel => exact ⟨i + 1, v, l, by omega, by go_num, rfl, by omega, HV, HW1, HM⟩
    case measure => simp [intOf]; omega
  ·obtain rfl : i = L.length := by omega
   have hDl : l.map Dq.nd = D := H.out.2.2.2 l HWT.out
   have hlids : ∀ x ∈ l, x.id ≤ 4096 := fun x hx => by
    have h1 := (List.mem_filter.1 (HWT.out.2.mem_iff.1 hx)).1
    exact H.out.2.1 x (List.mem_of_mem_take h1)
   obtain ⟨a3, c3, hv3, hs3, _⟩ := HV.out.at dqT
   obtain ⟨m, hm⟩ : ∃ m, l.length = m := ⟨_, rfl⟩
   rw [hm] at hv3 hli
   subst hv3
   have HS3 := Lib.hid (And.intro hs3 (And.intro hm (And.intro hDl hlids)))
   clear hs3 hm hDl hlids HV HWT
   obtain ⟨wa, hwa⟩ : ∃ wa : World, wa = wr := ⟨_, rfl⟩
   subst hwa
   go_wp2_with fail
   go_loopw [6, 7] (fun s6 s7 ws => ∃ (j : Nat) (u : Value), j ≤ m ∧ s7 = .int .i64 (j : Int) ∧ u = s6 ∧ Hid (SlOwn ic 1 3 ws wa.heap.size u ((l.take j).map (fun y => idn y.id))) ∧ Hid (Mod (fun _ => False) wa ws)) (fun _ s7 _ => m - (intOf s7).toNat)
   case atStart => exact ⟨0, _, by omega, rfl, rfl, Lib.hid (SlOwn.nil _ _), Lib.hid (Mod.refl _ _)⟩
   case round =>
    obtain ⟨j, u, hj, rfl, rfl, HU, HMj⟩ := hrel
    by_cases hjm : j < m
    ·obtain ⟨y, hy⟩ : ∃ y, l[j]? = some y := ⟨_, List.getElem?_eq_getElem (by rw [HS3.out.2.1]; exact hjm)⟩
     obtain ⟨g, oo, C, U, fr, rfl, kl, he, hle⟩ := (HS3.out.1.mod0 HMj.out).block hy
     obtain ⟨e0, _⟩ := dq_part he
     have hst : (l.take (j + 1)).map (fun y => idn y.id) = (l.take j).map (fun y => idn y.id) ++ [idn y.id] := by
      rw [List.take_add_one, hy, List.map_append]
      rfl
     have hbs := bsId y.id (HS3.out.2.2.2 y (List.mem_of_getElem? hy))
     obtain ⟨a4, c4, hv4, _⟩ := HU.out.at intT
     have hll : ((l.take j).map (fun y => idn y.id)).length = j := by
      rw [List.length_map, List.length_take, HS3.out.2.1]
      omega
     rw [hll] at hv4
     have HP := Lib.hid (And.intro hst hll)
     subst hv4
     clear hst hll hy he
     go_upto_region 14 with fail
     have Lkl := lt_size kl
     refine wp_pass0 (C := fun _ _ _ => False) (κ := fun i => [0, 0, 0, 0, 0, 1, 3, 5, 0].getD i 0) [0, 1, 2, 3, 4, 5, 6, 7, 8] (by kernel_rfl) (by kernel_rfl) (fun _ _ d _ _ h => by cases d <;> first | exact h | exact absurd h (hP _ _ _)) ?_
     (refine TD.val0 (v := ?v91) (by simp only [zK]; rfl) rfl (by rfl) (fun w1 => ?y91) ?n91; (case y91 => go_simp; try with_reducible rfl); try simp only [Act.put, zL])
     (refine TD.val0 (v := ?v92) (by simp only [zK]; rfl) rfl (by rfl) (fun w1 => ?y92) ?n92; (case y92 => go_simp; try with_reducible rfl); try simp only [Act.put, zL])
     (refine TD.val0 (v := ?v93) (by simp only [zK]; rfl) rfl (by rfl) (fun w1 => ?y93) ?n93; (case y93 => go_simp; try with_reducible rfl); try simp only [Act.put, zL])
     (refine TD.val0 (v := ?v94) (by simp only [zK]; rfl) rfl (by rfl) (fun w1 => ?y94) ?n94; (case y94 => go_simp; try with_reducible rfl); try simp only [Act.put, zL])
     (refine TD.val0 (v := ?v95) (by simp only [zK]; rfl) rfl (by rfl) (fun w1 => ?y95) ?n95; (case y95 => go_simp; try with_reducible rfl); try simp only [Act.put, zL])
     (refine TD.load (v := ?v96) (p := ?p96) (Mod.refl _ _) (by simp only [zK]; rfl) rfl (by rfl) rfl ?hx96 (fun wq hSq => ?y96) ?n96; (case hx96 => simp only [Act.eval, zM]; try rfl); (case y96 => (have klq := hSq.at kl (fun h => h); go_simp; (try with_reducible rfl))); try simp only [Act.put, zL])
     (refine TD.bslice (by simp only [zK]; rfl) rfl (by rfl) rfl rfl ?hx97 hbs (fun p75 hp75 => ?n97); (case hx97 => (simp only [List.map_toArray, List.map_cons, List.map_nil, Act.eval, zM]; (try rfl))); try simp only [Act.put, zL])
     refine TD.eff (by simp only [zK]; rfl) rfl (fun w5 hr => ?_)
     have kl := hr.mod.at kl (fun h => h)
     have kp75 := hr.box p75 _ (by first | exact Bx.set_same _ _ _ | (simp only [Bx.set_same]; rfl)); dsimp only [Value.cells] at kp75; obtain ⟨gp75, kp75⟩ := kp75
     have mm := HMj.out.then0 hr.mod
     have hone : SlAt ic 1 w5 (some ⟨p75, 0, none⟩) [idn y.id] := SlAt.one kp75 (idn y.id) rfl rfl
     have hO5 := HU.out.mod0 hr.mod
     have hlt2 := hO5.lt
     obtain ⟨v3, w6, hap, hO6, m6, hn6⟩ := SlOwn.append intT (c := 1) hO5 hone (by rw [HP.out.2, List.length_singleton]; omega) (by decide) mm.size 79
     have mF : Mod (fun _ => False) wa w6 := mm.then m6 (fun i hi e => by have := (hlt2 i e).1; omega)
     have HMF := Lib.hid mF
     rw [List.length_singleton] at hap
     rw [← HP.out.1] at hO6
     have HV6 := Lib.hid hO6
     clear hr hbs hone hO5 hlt2 hO6 hn6 mF m6 mm kp75
     (refine eff_append (by simp only [zK]; rfl) (by rfl) rfl ?hx99 ?hz99 hap ?n99; (case hx99 => simp only [Act.eval, zM]; try rfl); (case hz99 => simp only [Act.eval, zM]; try rfl); try simp only [Act.put, zL])
     (refine TE.val0 (v := ?v100) (by simp only [zK]; rfl) (by rfl) (fun w1 => ?y100) ?n100; (case y100 => go_simp; try with_reducible rfl); try simp only [Act.put, zL])
     refine TE.nil ?_
     clear hap
     go_wp2_with fail
     go_roundw
     case rel => exact ⟨j + 1, _, by omega, by go_num, rfl, HV6, HMF⟩
     case measure => simp [intOf]; omega
    ·obtain rfl : j = m := by omega
     have hu := HU.out
     have HF : Hid (SlOwn ic 1 3 wr w.heap.size u (D.map Nd.id)) := Lib.hid (by
      have h1 : (l.take j).map (fun y => idn y.id) = D.map Nd.id := by
       rw [List.take_of_length_le (by rw [HS3.out.2.1]; omega), ← HS3.out.2.2.1, List.map_map]
       rfl
      rw [← h1]
      exact hu.low HM.out.size)
     clear hu HU
     go_wp2_with fail
     go_ret
     exact ⟨_, rfl, HF.out, HM.out.then0 HMj.out⟩
end
end Go.Proofs.YtdeghpmlhcaedaaGreatDoor
