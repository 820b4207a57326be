/- The walk of (*locks.Table).Release. -/
import Derived.Test.YtleenmldlbccmaaTake
import Derived.Test.YtleenmldlbccmaaIter
import Derived.Laws.IdiomRangeMap
namespace Go.Proofs.Ytleenmldlbccmaa
open Go.RowKit
open Go.ChangeMaps (setBlock)
set_option linter.unusedSimpArgs false
set_option linter.unusedVariables false
def locksOf (l : List Role) (i : Fin 64) : List Lk := l.map fun r => (r.k, r.w, i)
def cntR (l : List Role) (k : Key) (b : Bool) : Nat := l.countP fun r => decide (r.k = k) && (r.w == b)
def subL (L : List Lk) (l : List Role) (i : Fin 64) : List Lk := l.foldl (fun L r => L.erase (r.k, r.w, i)) L
theorem subL_snoc (L : List Lk) (l : List Role) (r : Role) (i : Fin 64) : subL L (l ++ [r]) i = (subL L l i).erase (r.k, r.w, i) := by simp [subL, List.foldl_append]
theorem subL_count (i : Fin 64) (x : Lk) : ∀ (l : List Role) (L : List Lk), (subL L l i).count x = L.count x - (locksOf l i).count x
  | [], L => by simp [subL, locksOf]
  | r :: l, L => by
    have := subL_count i x l (L.erase (r.k, r.w, i))
    unfold subL at this ⊢
    rw [List.foldl_cons, this, List.count_erase]
    simp only [locksOf, List.map_cons, List.count_cons]
    omega
theorem subL_len (i : Fin 64) : ∀ (l : List Role) (L : List Lk), (subL L l i).length ≤ L.length
  | [], L => Nat.le_refl _
  | r :: l, L => by
    have := subL_len i l (L.erase (r.k, r.w, i))
    unfold subL at this ⊢
    rw [List.foldl_cons]
    exact Nat.le_trans this (List.length_erase_le)
theorem count_locks (l : List Role) (i : Fin 64) (k : Key) (b : Bool) (j : Fin 64) : (locksOf l i).count (k, b, j) = if j = i then cntR l k b else 0 := by
  induction l with
  | nil => simp [locksOf, cntR]
  | cons r l ih =>
    simp only [locksOf, List.map_cons, List.count_cons] at ih ⊢
    rw [ih]
    unfold cntR
    rw [List.countP_cons]
    by_cases hj : j = i
    · subst hj
      simp only [if_true]
      congr 1
      by_cases h1 : r.k = k <;> by_cases h2 : r.w = b <;> simp [h1, h2]
    · have : ¬ ((r.k, r.w, i) : Lk) = (k, b, j) := by
        rintro ⟨⟩
        exact hj rfl
      simp [hj, this]
def NeedInv (need : List (Key × (Int × Int))) (l : List Role) : Prop := ∀ k, (lkp k need).getD (0, 0) = ((cntR l k false : Int), (cntR l k true : Int))
theorem NeedInv.nil : NeedInv [] [] := fun k => rfl
theorem NeedInv.snoc {need : List (Key × (Int × Int))} {l : List Role} (h : NeedInv need l) (r : Role) : NeedInv (put r.k (stepC ((lkp r.k need).getD (0, 0)) r.w 1) need) (l ++ [r]) := fun k => by
  rw [lkp_put]
  by_cases hk : k = r.k
  · subst hk
    rw [if_pos rfl, h]
    unfold cntR stepC
    cases hw : r.w <;> simp [List.countP_append, List.countP_cons, hw]
  · rw [if_neg hk, h]
    unfold cntR
    simp [List.countP_append, List.countP_cons, Ne.symm hk]
theorem cntR_le (l : List Role) (k : Key) (b : Bool) : cntR l k b ≤ l.length := List.countP_le_length
def RelPost (w : World) (t hb wb n : Nat) (L : List Lk) (l : List Role) (i : Fin 64) (e : Ending) (w' : World) : Prop :=
  (e = .returned (.int .i64 11) ∧ (∃ x, L.count x < (locksOf l i).count x) ∧ Mod (fun _ => False) w w') ∨
  (e = .returned (.int .i64 0) ∧ (∀ x, (locksOf l i).count x ≤ L.count x) ∧ TabAt w' t hb wb n (subL L l i) ∧ Mod (fun i => i = hb ∨ i = wb) w w')
/-- An entry of need that the table bears. -/
def okp (L : List Lk) (i : Fin 64) (p : Key × (Int × Int)) : Prop := p.2.1 ≤ (L.count (p.1, false, i) : Int) ∧ p.2.2 ≤ (L.count (p.1, true, i) : Int)
theorem need_all {need : List (Key × (Int × Int))} {l : List Role} {L : List Lk} {i : Fin 64} (h : NeedInv need l) (hp : ∀ p ∈ need, okp L i p) : ∀ x, (locksOf l i).count x ≤ L.count x := by
  rintro ⟨k, b, j⟩
  rw [count_locks]
  by_cases hj : j = i
  · subst hj
    rw [if_pos rfl]
    have h1 := h k
    cases hq : lkp k need with
    | none =>
      rw [hq] at h1
      simp only [Option.getD_none, Prod.mk.injEq] at h1
      cases b <;> omega
    | some c =>
      rw [hq] at h1
      have h2 := hp _ (lkp_mem hq)
      simp only [Option.getD_some] at h1
      subst h1
      simp only [okp] at h2
      cases b <;> omega
  · rw [if_neg hj]
    omega
theorem need_not {need : List (Key × (Int × Int))} {l : List Role} {L : List Lk} {i : Fin 64} (h : NeedInv need l) (hn : (need.map Prod.fst).Nodup) {p : Key × (Int × Int)} (hp : p ∈ need) (hno : ¬ okp L i p) : ∃ x, L.count x < (locksOf l i).count x := by
  have h1 := h p.1
  rw [lkp_of_mem hn (show (p.1, p.2) ∈ need from hp)] at h1
  simp only [Option.getD_some] at h1
  unfold okp at hno
  rw [h1] at hno
  by_cases h2 : (cntR l p.1 false : Int) ≤ (L.count (p.1, false, i) : Int)
  · refine ⟨(p.1, true, i), ?_⟩
    rw [count_locks, if_pos rfl]
    simp only [h2, true_and] at hno
    omega
  · refine ⟨(p.1, false, i), ?_⟩
    rw [count_locks, if_pos rfl]
    omega
attribute [local go_sem ↓] wlKey wlRole wlSpot wlCounts wlBits ldKey ldRole ldSpot ldCounts ldBits stKey stRole stSpot stCounts stBits eqCounts eqBits
attribute [local go_sem] zKey_size zRole_size eqHeld cell_blk frozen_blk kc_ext rc_size rc_key rc_all rc_s rc_w rc_s' rc_w' rc_one sc_size sc_key sc_all sc_n sc_n' sc_one one_int one_bool one_ptr one_slice one_map zSpot_size kc_one kc_one0 Value.cells
set_option maxHeartbeats 3200000 in
theorem release_c (t hb wb n : Nat) (L : List Lk) (a : Option Addr) (l : List Role) (c : Nat) (i : Fin 64) (w : World) (h : TabAt w t hb wb n L) (hl : RolesAt w a l) (hL : L.length ≤ 1000000) (hlen : l.length ≤ 1000000) (hi : i.val < n) :
    Calls Try.prog 15 #[.pointer (some ⟨t, 0, none⟩), .slice a l.length c, .int .i64 (i.val : Int)] w (RelPost w t hb wb n L l i) := by
  obtain ⟨_, kt, _⟩ := id h
  have hmay := may_ok t hb wb n i.val w kt (by omega) (by omega)
  have hmm := @run_makeMap Try.prog
  have HM := Lib.hid hmay
  clear hmay kt
  have H := Lib.hid h
  clear h
  go_enter Try.func15, Try.ntmps15
  go_wp2_with (go_at_call 27; refine HM.out.mono ?_; rintro e w' ⟨rfl, rfl⟩)
  obtain ⟨w1, nb, hnb, kn, m1, e1⟩ : ∃ w1 nb, w.heap.size = nb ∧ w1.heap[nb]? = some (.map #[] 0) ∧ Mod (fun _ => False) w w1 ∧ w1 = w.alloc (.map #[] 0) := ⟨_, _, rfl, heap_alloc_new _ _, (Mod.refl _ _).alloc _, rfl⟩
  rw [← e1, hnb]
  have hnb2 : w.heap.size ≤ nb := by omega
  clear e1 hnb hmm
  go_loopw [26] (fun s26 wr => ∃ (j : Nat) (es : Array MapEntry) (ck : Nat) (need : List (Key × (Int × Int))), j ≤ l.length ∧ s26 = .int .i64 j ∧ wr.heap[nb]? = some (.map es ck) ∧ MapIs kv cv es ck need ∧ NeedInv need (l.take j) ∧ Mod (fun _ => False) w wr) (fun s26 _ => l.length - (intOf s26).toNat)
  case atStart => exact ⟨0, _, _, _, by omega, rfl, kn, MapIs.empty kv cv, NeedInv.nil, m1⟩
  case round =>
    clear kn m1 w1
    obtain ⟨j, es, ck, need, hj, rfl, kn, MN, hni, hm⟩ := hrel
    have hl2 := hl.mod0 hm
    by_cases hlt : j < l.length
    · obtain ⟨r, hr⟩ : ∃ r, l[j]? = some r := ⟨_, List.getElem?_eq_getElem hlt⟩
      obtain ⟨b, o, C, U, fr, rfl, kl, hc⟩ : ∃ b o C U fr, a = some ⟨b, o, none⟩ ∧ wr.heap[b]? = some (.cells C U fr) ∧
          ∀ i r, l[i]? = some r → C.extract (o + i * 34) (o + i * 34 + 34) = rc r.k r.s r.w ∧ o + i * 34 + 34 ≤ C.size := by
        rcases hl2 with rfl | h
        · simp at hr
        · exact h
      obtain ⟨hx, hle⟩ := hc j r hr
      have htake : l.take (j + 1) = l.take j ++ [r] := by
        rw [List.take_add_one, hr]
        rfl
      obtain ⟨k, s, wr1⟩ := r
      dsimp only at hx
      obtain ⟨c0, c1, hcc⟩ : ∃ c0 c1, (lkp k need).getD (0, 0) = (c0, c1) := ⟨_, _, rfl⟩
      have hcb : 0 ≤ c0 ∧ c0 ≤ 1000000 ∧ 0 ≤ c1 ∧ c1 ≤ 1000000 := by
        have h1 := hni k
        rw [hcc] at h1
        have h2 := cntR_le (l.take j) k false
        have h3 := cntR_le (l.take j) k true
        rw [List.length_take] at h2 h3
        cases h1
        omega
      have hbn : b ≠ nb := ne_of_obj kl kn (by simp)
      obtain ⟨hc0, hc0', hc1, hc1'⟩ := hcb
      have HC := Lib.hid hcc
      have HTK := Lib.hid htake
      have HNI := Lib.hid hni
      clear hcc htake hni hc hr hl2
      cases wr1 with
      | false =>
        have hwr : IntKind.i64.wrap (c0 + 1) = c0 + 1 := IntWalk.i64_in _ (by omega)
        have hstep : NeedInv (put k (c0+1,c1) need) (l.take (j + 1)) := by
          rw [HTK.out]
          have := HNI.out.snoc ⟨k, s, false⟩
          rw [HC.out] at this
          exact this
        have HST := Lib.hid hstep
        clear hstep
        have mm := hm
        go_upto_region 7 with fail
        have Lkl := lt_size kl
        have Lkn := lt_size kn
        refine wp_pass0 (C := fun _ _ _ => False) (κ := fun i => [0, 1, 3, 4].getD i 0) [0, 1, 2, 3] (by kernel_rfl) (by kernel_rfl) (fun _ _ d _ _ h => by cases d <;> exact h) ?_
        (refine TD.val0 (v := ?v1) (by simp only [List.getElem?_toArray, List.getElem?_cons_succ, List.getElem?_cons_zero]; rfl) rfl ?hw1 (fun w1 => ?hy1) ?hn1; (case hw1 => rfl); (case hy1 => (go_simp; (try with_reducible rfl))); (try simp only [Act.put, List.setIfInBounds_toArray, List.set_cons_zero, List.set_cons_succ]))
        (refine TD.load (v := ?v2) (p := ?p2) (Mod.refl _ _) (by simp only [List.getElem?_toArray, List.getElem?_cons_succ, List.getElem?_cons_zero]; rfl) rfl ?hw2 rfl ?hx2 (fun wq hSq => ?hy2) ?hn2; (case hw2 => rfl); (case hx2 => (simp only [Act.eval, Array.getD_eq_getD_getElem?, List.getElem?_toArray, List.getElem?_cons_succ, List.getElem?_cons_zero, Option.getD_some]; (try rfl))); (case hy2 => (have klq := hSq.at kl (fun h => h); have knq := hSq.at kn (fun h => h); go_simp; (try with_reducible rfl))); (try simp only [Act.put, List.setIfInBounds_toArray, List.set_cons_zero, List.set_cons_succ]))
        (refine TD.allocB (by simp only [List.getElem?_toArray, List.getElem?_cons_succ, List.getElem?_cons_zero]; rfl) rfl ?hw3 rfl rfl alRole (fun p10 hp10 => ?hn3); (case hw3 => rfl); (try simp only [Act.put, List.setIfInBounds_toArray, List.set_cons_zero, List.set_cons_succ]))
        (refine TD.storeB (d := ?d4) (T := ?T4) (y := ?y4) (p := ?p4) (b := ?b4) (v := ?v4) (by simp only [List.getElem?_toArray, List.getElem?_cons_succ, List.getElem?_cons_zero]; rfl) rfl ?hw4 ?hd4 ?hop4 ?hev4 ?hx4 ?hb4 ?htag4 (fun w1 hb1 => ?hy4) ?hn4; (case hw4 => rfl); (case hd4 => rfl); (case hop4 => rfl); (case hev4 => (simp only [Act.eval, Array.getD_eq_getD_getElem?, List.getElem?_toArray, List.getElem?_cons_succ, List.getElem?_cons_zero, Option.getD_some]; (try rfl))); (case hx4 => (simp only [Act.eval, Array.getD_eq_getD_getElem?, List.getElem?_toArray, List.getElem?_cons_succ, List.getElem?_cons_zero, Option.getD_some]; (try rfl))); (case hb4 => first | exact Bx.set_same _ _ _ | (simp only [Bx.set_same]; rfl)); (case hy4 => (go_simp; (try with_reducible rfl))); (try simp only [Act.put, List.setIfInBounds_toArray, List.set_cons_zero, List.set_cons_succ]))
        refine TD.nil (fun w2 hr => ?_)
        have kl := hr.mod.at kl (fun h => h)
        have kn := hr.mod.at kn (fun h => h)
        have kp10 := hr.box p10 _ (by first | exact Bx.set_same _ _ _ | (simp only [Bx.set_same]; rfl)); dsimp only [Value.cells] at kp10; obtain ⟨gp10, kp10⟩ := kp10
        have mm := mm.then0 hr.mod
        go_upto_region 8 with fail
        have ln : ∀ wq, Mod (fun _ => False) w2 wq → (Instr.lookup 70 (.map (some nb)) (.agg (kc k)) false).run Try.prog wq = .ok (.agg #[.int .i64 c0, .int .i64 c1]) wq := fun wq hm => by
          have := MN.lookupD keyT Try.underlying70 zero_c wq (hm.at0 kn) k
          rw [HC.out] at this
          exact this
        have Lkl := lt_size kl
        have Lkn := lt_size kn
        have Lkp10 := lt_size kp10
        refine wp_pass0 (C := fun _ _ _ => False) (κ := fun i => [0, 0, 1, 1, 3, 4].getD i 0) [0, 1, 2, 3, 4, 5] (by kernel_rfl) (by kernel_rfl) (fun _ _ d _ _ h => by cases d <;> exact h) ?_
        (refine TD.val0 (v := ?v5) (by simp only [List.getElem?_toArray, List.getElem?_cons_succ, List.getElem?_cons_zero]; rfl) rfl ?hw5 (fun w1 => ?hy5) ?hn5; (case hw5 => rfl); (case hy5 => (go_simp; (try with_reducible rfl))); (try simp only [Act.put, List.setIfInBounds_toArray, List.set_cons_zero, List.set_cons_succ]))
        (refine TD.val0 (v := ?v6) (by simp only [List.getElem?_toArray, List.getElem?_cons_succ, List.getElem?_cons_zero]; rfl) rfl ?hw6 (fun w1 => ?hy6) ?hn6; (case hw6 => rfl); (case hy6 => (go_simp; (try with_reducible rfl))); (try simp only [Act.put, List.setIfInBounds_toArray, List.set_cons_zero, List.set_cons_succ]))
        (refine TD.load (v := ?v7) (p := ?p7) (Mod.refl _ _) (by simp only [List.getElem?_toArray, List.getElem?_cons_succ, List.getElem?_cons_zero]; rfl) rfl ?hw7 rfl ?hx7 (fun wq hSq => ?hy7) ?hn7; (case hw7 => rfl); (case hx7 => (simp only [Act.eval, Array.getD_eq_getD_getElem?, List.getElem?_toArray, List.getElem?_cons_succ, List.getElem?_cons_zero, Option.getD_some]; (try rfl))); (case hy7 => (have klq := hSq.at kl (fun h => h); have knq := hSq.at kn (fun h => h); have kp10q := hSq.at kp10 (fun h => h); go_simp; (try with_reducible rfl))); (try simp only [Act.put, List.setIfInBounds_toArray, List.set_cons_zero, List.set_cons_succ]))
        (refine TD.lookup (v := ?v8) (p := ?p8) (q := ?q8) (Mod.refl _ _) (by simp only [List.getElem?_toArray, List.getElem?_cons_succ, List.getElem?_cons_zero]; rfl) rfl ?hw8 rfl ?hx8 ?hz8 (fun wq hSq => ?hy8) ?hn8; (case hw8 => rfl); (case hx8 => (simp only [Act.eval, Array.getD_eq_getD_getElem?, List.getElem?_toArray, List.getElem?_cons_succ, List.getElem?_cons_zero, Option.getD_some]; (try rfl))); (case hz8 => (simp only [Act.eval, Array.getD_eq_getD_getElem?, List.getElem?_toArray, List.getElem?_cons_succ, List.getElem?_cons_zero, Option.getD_some]; (try rfl))); (case hy8 => (rw [ln wq hSq]; (try with_reducible rfl))); (try simp only [Act.put, List.setIfInBounds_toArray, List.set_cons_zero, List.set_cons_succ]))
        (refine TD.allocB (by simp only [List.getElem?_toArray, List.getElem?_cons_succ, List.getElem?_cons_zero]; rfl) rfl ?hw9 rfl rfl alCounts (fun p11 hp11 => ?hn9); (case hw9 => rfl); (try simp only [Act.put, List.setIfInBounds_toArray, List.set_cons_zero, List.set_cons_succ]))
        (refine TD.storeB (d := ?d10) (T := ?T10) (y := ?y10) (p := ?p10) (b := ?b10) (v := ?v10) (by simp only [List.getElem?_toArray, List.getElem?_cons_succ, List.getElem?_cons_zero]; rfl) rfl ?hw10 ?hd10 ?hop10 ?hev10 ?hx10 ?hb10 ?htag10 (fun w1 hb1 => ?hy10) ?hn10; (case hw10 => rfl); (case hd10 => rfl); (case hop10 => rfl); (case hev10 => (simp only [Act.eval, Array.getD_eq_getD_getElem?, List.getElem?_toArray, List.getElem?_cons_succ, List.getElem?_cons_zero, Option.getD_some]; (try rfl))); (case hx10 => (simp only [Act.eval, Array.getD_eq_getD_getElem?, List.getElem?_toArray, List.getElem?_cons_succ, List.getElem?_cons_zero, Option.getD_some]; (try rfl))); (case hb10 => first | exact Bx.set_same _ _ _ | (simp only [Bx.set_same]; rfl)); (case hy10 => (go_simp; (try with_reducible rfl))); (try simp only [Act.put, List.setIfInBounds_toArray, List.set_cons_zero, List.set_cons_succ]))
        refine TD.nil (fun w3 hr => ?_)
        have kl := hr.mod.at kl (fun h => h)
        have kn := hr.mod.at kn (fun h => h)
        have kp10 := hr.mod.at kp10 (fun h => h)
        have kp11 := hr.box p11 _ (by first | exact Bx.set_same _ _ _ | (simp only [Bx.set_same]; rfl)); dsimp only [Value.cells] at kp11; obtain ⟨gp11, kp11⟩ := kp11
        have mm := mm.then0 hr.mod
        clear ln
        go_upto_region 9 with fail
        have Lkl := lt_size kl
        have Lkn := lt_size kn
        have Lkp10 := lt_size kp10
        have Lkp11 := lt_size kp11
        refine wp_pass0 (C := fun _ _ v => v = .int .i64 0) (κ := fun i => [1, 2, 0, 1, 0, 0, 5].getD i 0) [0, 1, 2, 3, 4, 5, 6] (by kernel_rfl) (by kernel_rfl) (fun _ _ d _ _ h => by cases d <;> exact h) ?_
        (refine TD.load (v := ?v11) (p := ?p11) (Mod.refl _ _) (by simp only [List.getElem?_toArray, List.getElem?_cons_succ, List.getElem?_cons_zero]; rfl) rfl ?hw11 rfl ?hx11 (fun wq hSq => ?hy11) ?hn11; (case hw11 => rfl); (case hx11 => (simp only [Act.eval, Array.getD_eq_getD_getElem?, List.getElem?_toArray, List.getElem?_cons_succ, List.getElem?_cons_zero, Option.getD_some]; (try rfl))); (case hy11 => (have klq := hSq.at kl (fun h => h); have knq := hSq.at kn (fun h => h); have kp10q := hSq.at kp10 (fun h => h); have kp11q := hSq.at kp11 (fun h => h); go_simp; (try with_reducible rfl))); (try simp only [Act.put, List.setIfInBounds_toArray, List.set_cons_zero, List.set_cons_succ]))
        (refine TD.call (f := ?f12) (args := ?r12) (Mod.refl _ _) (by simp only [List.getElem?_toArray, List.getElem?_cons_succ, List.getElem?_cons_zero]; rfl) rfl ?hw12 (fun w1 => ?hy12) ?hsp12 ?hn12; (case hw12 => rfl); (case hy12 => (go_simp; (first | with_reducible rfl | (constructor <;> with_reducible rfl)))); (case hsp12 => (intro wq hSq; have klq := hSq.at kl (fun h => h); have knq := hSq.at kn (fun h => h); have kp10q := hSq.at kp10 (fun h => h); have kp11q := hSq.at kp11 (fun h => h); exact (way_c k s false wq).mono (fun e w' h => ⟨_, h.1, rfl, h.2⟩))); rintro _ rfl; (try simp only [Act.put, List.setIfInBounds_toArray, List.set_cons_zero, List.set_cons_succ]))
        (refine TD.val0 (v := ?v13) (by simp only [List.getElem?_toArray, List.getElem?_cons_succ, List.getElem?_cons_zero]; rfl) rfl ?hw13 (fun w1 => ?hy13) ?hn13; (case hw13 => rfl); (case hy13 => (go_simp; (try with_reducible rfl))); (try simp only [Act.put, List.setIfInBounds_toArray, List.set_cons_zero, List.set_cons_succ]))
        (refine TD.load (v := ?v14) (p := ?p14) (Mod.refl _ _) (by simp only [List.getElem?_toArray, List.getElem?_cons_succ, List.getElem?_cons_zero]; rfl) rfl ?hw14 rfl ?hx14 (fun wq hSq => ?hy14) ?hn14; (case hw14 => rfl); (case hx14 => (simp only [Act.eval, Array.getD_eq_getD_getElem?, List.getElem?_toArray, List.getElem?_cons_succ, List.getElem?_cons_zero, Option.getD_some]; (try rfl))); (case hy14 => (have klq := hSq.at kl (fun h => h); have knq := hSq.at kn (fun h => h); have kp10q := hSq.at kp10 (fun h => h); have kp11q := hSq.at kp11 (fun h => h); go_simp; (try with_reducible rfl))); (try simp only [Act.put, List.setIfInBounds_toArray, List.set_cons_zero, List.set_cons_succ]))
        (refine TD.val0 (v := ?v15) (by simp only [List.getElem?_toArray, List.getElem?_cons_succ, List.getElem?_cons_zero]; rfl) rfl ?hw15 (fun w1 => ?hy15) ?hn15; (case hw15 => rfl); (case hy15 => (go_simp; (try with_reducible rfl))); (try simp only [Act.put, List.setIfInBounds_toArray, List.set_cons_zero, List.set_cons_succ]))
        (refine TD.val0 (v := ?v16) (by simp only [List.getElem?_toArray, List.getElem?_cons_succ, List.getElem?_cons_zero]; rfl) rfl ?hw16 (fun w1 => ?hy16) ?hn16; (case hw16 => rfl); (case hy16 => (go_simp; (try with_reducible rfl))); (try simp only [Act.put, List.setIfInBounds_toArray, List.set_cons_zero, List.set_cons_succ]))
        refine TD.eff (by simp only [List.getElem?_toArray, List.getElem?_cons_succ, List.getElem?_cons_zero]; rfl) rfl (fun wE hr => ?_)
        have kl := hr.mod.at0 kl
        have kn := hr.mod.at0 kn
        have kp10 := hr.mod.at0 kp10
        have kp11 := hr.mod.at0 kp11
        have mE := hr.mod
        (refine eff_store (X := ?X17) (Y := ?Y17) (w' := ?w17) (by simp only [List.getElem?_toArray, List.getElem?_cons_succ, List.getElem?_cons_zero]; rfl) ?hw17 rfl ?hx17 ?hz17 ?hy17 ?hn17; (case hw17 => rfl); (case hx17 => (simp only [Act.eval, Array.getD_eq_getD_getElem?, List.getElem?_toArray, List.getElem?_cons_succ, List.getElem?_cons_zero, Option.getD_some]; (try rfl))); (case hz17 => (simp only [Act.eval, Array.getD_eq_getD_getElem?, List.getElem?_toArray, List.getElem?_cons_succ, List.getElem?_cons_zero, Option.getD_some]; (try rfl))); (case hy17 => (go_simp; (try with_reducible rfl))))
        (first | refine TE.nil_set kp11 (fun w4 kp11 mS => ?_) | refine TE.nil_setCell kp11 (fun w4 kp11 mS => ?_))
        (try simp only [Array.setIfInBounds, List.setIfInBounds_toArray, List.set_cons_zero, List.set_cons_succ] at kp11)
        have kl := mS.at_ne kl (by omega)
        have kn := mS.at_ne kn (by omega)
        have kp10 := mS.at_ne kp10 (by omega)
        have mm := (mm.then0 mE).thenB mS (.inl (by omega))
        go_upto_region 10 with fail
        have Lkl := lt_size kl
        have Lkp10 := lt_size kp10
        have Lkp11 := lt_size kp11
        have Lkn := lt_size kn
        refine wp_pass0 (C := fun _ _ _ => False) (κ := fun i => [0, 0, 1, 1, 5].getD i 0) [0, 1, 2, 3, 4] (by kernel_rfl) (by kernel_rfl) (fun _ _ d _ _ h => by cases d <;> exact h) ?_
        (refine TD.val0 (v := ?v18) (by simp only [List.getElem?_toArray, List.getElem?_cons_succ, List.getElem?_cons_zero]; rfl) rfl ?hw18 (fun w1 => ?hy18) ?hn18; (case hw18 => rfl); (case hy18 => (go_simp; (try with_reducible rfl))); (try simp only [Act.put, List.setIfInBounds_toArray, List.set_cons_zero, List.set_cons_succ]))
        (refine TD.val0 (v := ?v19) (by simp only [List.getElem?_toArray, List.getElem?_cons_succ, List.getElem?_cons_zero]; rfl) rfl ?hw19 (fun w1 => ?hy19) ?hn19; (case hw19 => rfl); (case hy19 => (go_simp; (try with_reducible rfl))); (try simp only [Act.put, List.setIfInBounds_toArray, List.set_cons_zero, List.set_cons_succ]))
        (refine TD.load (v := ?v20) (p := ?p20) (Mod.refl _ _) (by simp only [List.getElem?_toArray, List.getElem?_cons_succ, List.getElem?_cons_zero]; rfl) rfl ?hw20 rfl ?hx20 (fun wq hSq => ?hy20) ?hn20; (case hw20 => rfl); (case hx20 => (simp only [Act.eval, Array.getD_eq_getD_getElem?, List.getElem?_toArray, List.getElem?_cons_succ, List.getElem?_cons_zero, Option.getD_some]; (try rfl))); (case hy20 => (have klq := hSq.at kl (fun h => h); have kp10q := hSq.at kp10 (fun h => h); have kp11q := hSq.at kp11 (fun h => h); have knq := hSq.at kn (fun h => h); go_simp; (try with_reducible rfl))); (try simp only [Act.put, List.setIfInBounds_toArray, List.set_cons_zero, List.set_cons_succ]))
        (refine TD.load (v := ?v21) (p := ?p21) (Mod.refl _ _) (by simp only [List.getElem?_toArray, List.getElem?_cons_succ, List.getElem?_cons_zero]; rfl) rfl ?hw21 rfl ?hx21 (fun wq hSq => ?hy21) ?hn21; (case hw21 => rfl); (case hx21 => (simp only [Act.eval, Array.getD_eq_getD_getElem?, List.getElem?_toArray, List.getElem?_cons_succ, List.getElem?_cons_zero, Option.getD_some]; (try rfl))); (case hy21 => (have klq := hSq.at kl (fun h => h); have kp10q := hSq.at kp10 (fun h => h); have kp11q := hSq.at kp11 (fun h => h); have knq := hSq.at kn (fun h => h); go_simp; (try with_reducible rfl))); (try simp only [Act.put, List.setIfInBounds_toArray, List.set_cons_zero, List.set_cons_succ]))
        refine TD.eff (by simp only [List.getElem?_toArray, List.getElem?_cons_succ, List.getElem?_cons_zero]; rfl) rfl (fun wE hr => ?_)
        have kl := hr.mod.at0 kl
        have kp10 := hr.mod.at0 kp10
        have kp11 := hr.mod.at0 kp11
        have kn := hr.mod.at0 kn
        have mE := hr.mod
        obtain ⟨es22, cl22, hrun22, Mkn⟩ := MN.update keyT Try.underlying70 wE kn k (c0+1,c1)
        (refine eff_update (X := ?X22) (Y := ?Y22) (Z := ?Z22) (w' := ?w22) (by simp only [List.getElem?_toArray, List.getElem?_cons_succ, List.getElem?_cons_zero]; rfl) ?hw22 rfl ?hx22 ?hz22 ?hv22 ?hy22 ?hn22; (case hw22 => rfl); (case hx22 => (simp only [Act.eval, Array.getD_eq_getD_getElem?, List.getElem?_toArray, List.getElem?_cons_succ, List.getElem?_cons_zero, Option.getD_some]; (try rfl))); (case hz22 => (simp only [Act.eval, Array.getD_eq_getD_getElem?, List.getElem?_toArray, List.getElem?_cons_succ, List.getElem?_cons_zero, Option.getD_some]; (try rfl))); (case hv22 => (simp only [Act.eval, Array.getD_eq_getD_getElem?, List.getElem?_toArray, List.getElem?_cons_succ, List.getElem?_cons_zero, Option.getD_some]; (try rfl))); (case hy22 => exact hrun22))
        (first | refine TE.nil_set kn (fun w5 kn mS => ?_) | refine TE.nil_setCell kn (fun w5 kn mS => ?_))
        (try simp only [Array.setIfInBounds, List.setIfInBounds_toArray, List.set_cons_zero, List.set_cons_succ] at kn)
        have kl := mS.at_ne kl (by omega)
        have kp10 := mS.at_ne kp10 (by omega)
        have kp11 := mS.at_ne kp11 (by omega)
        have mm := (mm.then0 mE).thenB mS (.inl (by omega))
        go_wp2_with fail
        go_roundw
        case rel => exact ⟨j + 1, _, _, _, by omega, by go_num, kn, Mkn, HST.out, mm⟩
        case measure => simp [intOf]; omega
      | true =>
        have hwr : IntKind.i64.wrap (c1 + 1) = c1 + 1 := IntWalk.i64_in _ (by omega)
        have hstep : NeedInv (put k (c0,c1+1) need) (l.take (j + 1)) := by
          rw [HTK.out]
          have := HNI.out.snoc ⟨k, s, true⟩
          rw [HC.out] at this
          exact this
        have HST := Lib.hid hstep
        clear hstep
        have mm := hm
        go_upto_region 7 with fail
        have Lkl := lt_size kl
        have Lkn := lt_size kn
        refine wp_pass0 (C := fun _ _ _ => False) (κ := fun i => [0, 1, 3, 4].getD i 0) [0, 1, 2, 3] (by kernel_rfl) (by kernel_rfl) (fun _ _ d _ _ h => by cases d <;> exact h) ?_
        (refine TD.val0 (v := ?v23) (by simp only [List.getElem?_toArray, List.getElem?_cons_succ, List.getElem?_cons_zero]; rfl) rfl ?hw23 (fun w1 => ?hy23) ?hn23; (case hw23 => rfl); (case hy23 => (go_simp; (try with_reducible rfl))); (try simp only [Act.put, List.setIfInBounds_toArray, List.set_cons_zero, List.set_cons_succ]))
        (refine TD.load (v := ?v24) (p := ?p24) (Mod.refl _ _) (by simp only [List.getElem?_toArray, List.getElem?_cons_succ, List.getElem?_cons_zero]; rfl) rfl ?hw24 rfl ?hx24 (fun wq hSq => ?hy24) ?hn24; (case hw24 => rfl); (case hx24 => (simp only [Act.eval, Array.getD_eq_getD_getElem?, List.getElem?_toArray, List.getElem?_cons_succ, List.getElem?_cons_zero, Option.getD_some]; (try rfl))); (case hy24 => (have klq := hSq.at kl (fun h => h); have knq := hSq.at kn (fun h => h); go_simp; (try with_reducible rfl))); (try simp only [Act.put, List.setIfInBounds_toArray, List.set_cons_zero, List.set_cons_succ]))
        (refine TD.allocB (by simp only [List.getElem?_toArray, List.getElem?_cons_succ, List.getElem?_cons_zero]; rfl) rfl ?hw25 rfl rfl alRole (fun p10 hp10 => ?hn25); (case hw25 => rfl); (try simp only [Act.put, List.setIfInBounds_toArray, List.set_cons_zero, List.set_cons_succ]))
        (refine TD.storeB (d := ?d26) (T := ?T26) (y := ?y26) (p := ?p26) (b := ?b26) (v := ?v26) (by simp only [List.getElem?_toArray, List.getElem?_cons_succ, List.getElem?_cons_zero]; rfl) rfl ?hw26 ?hd26 ?hop26 ?hev26 ?hx26 ?hb26 ?htag26 (fun w1 hb1 => ?hy26) ?hn26; (case hw26 => rfl); (case hd26 => rfl); (case hop26 => rfl); (case hev26 => (simp only [Act.eval, Array.getD_eq_getD_getElem?, List.getElem?_toArray, List.getElem?_cons_succ, List.getElem?_cons_zero, Option.getD_some]; (try rfl))); (case hx26 => (simp only [Act.eval, Array.getD_eq_getD_getElem?, List.getElem?_toArray, List.getElem?_cons_succ, List.getElem?_cons_zero, Option.getD_some]; (try rfl))); (case hb26 => first | exact Bx.set_same _ _ _ | (simp only [Bx.set_same]; rfl)); (case hy26 => (go_simp; (try with_reducible rfl))); (try simp only [Act.put, List.setIfInBounds_toArray, List.set_cons_zero, List.set_cons_succ]))
        refine TD.nil (fun w2 hr => ?_)
        have kl := hr.mod.at kl (fun h => h)
        have kn := hr.mod.at kn (fun h => h)
        have kp10 := hr.box p10 _ (by first | exact Bx.set_same _ _ _ | (simp only [Bx.set_same]; rfl)); dsimp only [Value.cells] at kp10; obtain ⟨gp10, kp10⟩ := kp10
        have mm := mm.then0 hr.mod
        go_upto_region 8 with fail
        have ln : ∀ wq, Mod (fun _ => False) w2 wq → (Instr.lookup 70 (.map (some nb)) (.agg (kc k)) false).run Try.prog wq = .ok (.agg #[.int .i64 c0, .int .i64 c1]) wq := fun wq hm => by
          have := MN.lookupD keyT Try.underlying70 zero_c wq (hm.at0 kn) k
          rw [HC.out] at this
          exact this
        have Lkl := lt_size kl
        have Lkn := lt_size kn
        have Lkp10 := lt_size kp10
        refine wp_pass0 (C := fun _ _ _ => False) (κ := fun i => [0, 0, 1, 1, 3, 4].getD i 0) [0, 1, 2, 3, 4, 5] (by kernel_rfl) (by kernel_rfl) (fun _ _ d _ _ h => by cases d <;> exact h) ?_
        (refine TD.val0 (v := ?v27) (by simp only [List.getElem?_toArray, List.getElem?_cons_succ, List.getElem?_cons_zero]; rfl) rfl ?hw27 (fun w1 => ?hy27) ?hn27; (case hw27 => rfl); (case hy27 => (go_simp; (try with_reducible rfl))); (try simp only [Act.put, List.setIfInBounds_toArray, List.set_cons_zero, List.set_cons_succ]))
        (refine TD.val0 (v := ?v28) (by simp only [List.getElem?_toArray, List.getElem?_cons_succ, List.getElem?_cons_zero]; rfl) rfl ?hw28 (fun w1 => ?hy28) ?hn28; (case hw28 => rfl); (case hy28 => (go_simp; (try with_reducible rfl))); (try simp only [Act.put, List.setIfInBounds_toArray, List.set_cons_zero, List.set_cons_succ]))
        (refine TD.load (v := ?v29) (p := ?p29) (Mod.refl _ _) (by simp only [List.getElem?_toArray, List.getElem?_cons_succ, List.getElem?_cons_zero]; rfl) rfl ?hw29 rfl ?hx29 (fun wq hSq => ?hy29) ?hn29; (case hw29 => rfl); (case hx29 => (simp only [Act.eval, Array.getD_eq_getD_getElem?, List.getElem?_toArray, List.getElem?_cons_succ, List.getElem?_cons_zero, Option.getD_some]; (try rfl))); (case hy29 => (have klq := hSq.at kl (fun h => h); have knq := hSq.at kn (fun h => h); have kp10q := hSq.at kp10 (fun h => h); go_simp; (try with_reducible rfl))); (try simp only [Act.put, List.setIfInBounds_toArray, List.set_cons_zero, List.set_cons_succ]))
        (refine TD.lookup (v := ?v30) (p := ?p30) (q := ?q30) (Mod.refl _ _) (by simp only [List.getElem?_toArray, List.getElem?_cons_succ, List.getElem?_cons_zero]; rfl) rfl ?hw30 rfl ?hx30 ?hz30 (fun wq hSq => ?hy30) ?hn30; (case hw30 => rfl); (case hx30 => (simp only [Act.eval, Array.getD_eq_getD_getElem?, List.getElem?_toArray, List.getElem?_cons_succ, List.getElem?_cons_zero, Option.getD_some]; (try rfl))); (case hz30 => (simp only [Act.eval, Array.getD_eq_getD_getElem?, List.getElem?_toArray, List.getElem?_cons_succ, List.getElem?_cons_zero, Option.getD_some]; (try rfl))); (case hy30 => (rw [ln wq hSq]; (try with_reducible rfl))); (try simp only [Act.put, List.setIfInBounds_toArray, List.set_cons_zero, List.set_cons_succ]))
        (refine TD.allocB (by simp only [List.getElem?_toArray, List.getElem?_cons_succ, List.getElem?_cons_zero]; rfl) rfl ?hw31 rfl rfl alCounts (fun p11 hp11 => ?hn31); (case hw31 => rfl); (try simp only [Act.put, List.setIfInBounds_toArray, List.set_cons_zero, List.set_cons_succ]))
        (refine TD.storeB (d := ?d32) (T := ?T32) (y := ?y32) (p := ?p32) (b := ?b32) (v := ?v32) (by simp only [List.getElem?_toArray, List.getElem?_cons_succ, List.getElem?_cons_zero]; rfl) rfl ?hw32 ?hd32 ?hop32 ?hev32 ?hx32 ?hb32 ?htag32 (fun w1 hb1 => ?hy32) ?hn32; (case hw32 => rfl); (case hd32 => rfl); (case hop32 => rfl); (case hev32 => (simp only [Act.eval, Array.getD_eq_getD_getElem?, List.getElem?_toArray, List.getElem?_cons_succ, List.getElem?_cons_zero, Option.getD_some]; (try rfl))); (case hx32 => (simp only [Act.eval, Array.getD_eq_getD_getElem?, List.getElem?_toArray, List.getElem?_cons_succ, List.getElem?_cons_zero, Option.getD_some]; (try rfl))); (case hb32 => first | exact Bx.set_same _ _ _ | (simp only [Bx.set_same]; rfl)); (case hy32 => (go_simp; (try with_reducible rfl))); (try simp only [Act.put, List.setIfInBounds_toArray, List.set_cons_zero, List.set_cons_succ]))
        refine TD.nil (fun w3 hr => ?_)
        have kl := hr.mod.at kl (fun h => h)
        have kn := hr.mod.at kn (fun h => h)
        have kp10 := hr.mod.at kp10 (fun h => h)
        have kp11 := hr.box p11 _ (by first | exact Bx.set_same _ _ _ | (simp only [Bx.set_same]; rfl)); dsimp only [Value.cells] at kp11; obtain ⟨gp11, kp11⟩ := kp11
        have mm := mm.then0 hr.mod
        clear ln
        go_upto_region 9 with fail
        have Lkl := lt_size kl
        have Lkn := lt_size kn
        have Lkp10 := lt_size kp10
        have Lkp11 := lt_size kp11
        refine wp_pass0 (C := fun _ _ v => v = .int .i64 1) (κ := fun i => [1, 2, 0, 1, 0, 0, 5].getD i 0) [0, 1, 2, 3, 4, 5, 6] (by kernel_rfl) (by kernel_rfl) (fun _ _ d _ _ h => by cases d <;> exact h) ?_
        (refine TD.load (v := ?v33) (p := ?p33) (Mod.refl _ _) (by simp only [List.getElem?_toArray, List.getElem?_cons_succ, List.getElem?_cons_zero]; rfl) rfl ?hw33 rfl ?hx33 (fun wq hSq => ?hy33) ?hn33; (case hw33 => rfl); (case hx33 => (simp only [Act.eval, Array.getD_eq_getD_getElem?, List.getElem?_toArray, List.getElem?_cons_succ, List.getElem?_cons_zero, Option.getD_some]; (try rfl))); (case hy33 => (have klq := hSq.at kl (fun h => h); have knq := hSq.at kn (fun h => h); have kp10q := hSq.at kp10 (fun h => h); have kp11q := hSq.at kp11 (fun h => h); go_simp; (try with_reducible rfl))); (try simp only [Act.put, List.setIfInBounds_toArray, List.set_cons_zero, List.set_cons_succ]))
        (refine TD.call (f := ?f34) (args := ?r34) (Mod.refl _ _) (by simp only [List.getElem?_toArray, List.getElem?_cons_succ, List.getElem?_cons_zero]; rfl) rfl ?hw34 (fun w1 => ?hy34) ?hsp34 ?hn34; (case hw34 => rfl); (case hy34 => (go_simp; (first | with_reducible rfl | (constructor <;> with_reducible rfl)))); (case hsp34 => (intro wq hSq; have klq := hSq.at kl (fun h => h); have knq := hSq.at kn (fun h => h); have kp10q := hSq.at kp10 (fun h => h); have kp11q := hSq.at kp11 (fun h => h); exact (way_c k s true wq).mono (fun e w' h => ⟨_, h.1, rfl, h.2⟩))); rintro _ rfl; (try simp only [Act.put, List.setIfInBounds_toArray, List.set_cons_zero, List.set_cons_succ]))
        (refine TD.val0 (v := ?v35) (by simp only [List.getElem?_toArray, List.getElem?_cons_succ, List.getElem?_cons_zero]; rfl) rfl ?hw35 (fun w1 => ?hy35) ?hn35; (case hw35 => rfl); (case hy35 => (go_simp; (try with_reducible rfl))); (try simp only [Act.put, List.setIfInBounds_toArray, List.set_cons_zero, List.set_cons_succ]))
        (refine TD.load (v := ?v36) (p := ?p36) (Mod.refl _ _) (by simp only [List.getElem?_toArray, List.getElem?_cons_succ, List.getElem?_cons_zero]; rfl) rfl ?hw36 rfl ?hx36 (fun wq hSq => ?hy36) ?hn36; (case hw36 => rfl); (case hx36 => (simp only [Act.eval, Array.getD_eq_getD_getElem?, List.getElem?_toArray, List.getElem?_cons_succ, List.getElem?_cons_zero, Option.getD_some]; (try rfl))); (case hy36 => (have klq := hSq.at kl (fun h => h); have knq := hSq.at kn (fun h => h); have kp10q := hSq.at kp10 (fun h => h); have kp11q := hSq.at kp11 (fun h => h); go_simp; (try with_reducible rfl))); (try simp only [Act.put, List.setIfInBounds_toArray, List.set_cons_zero, List.set_cons_succ]))
        (refine TD.val0 (v := ?v37) (by simp only [List.getElem?_toArray, List.getElem?_cons_succ, List.getElem?_cons_zero]; rfl) rfl ?hw37 (fun w1 => ?hy37) ?hn37; (case hw37 => rfl); (case hy37 => (go_simp; (try with_reducible rfl))); (try simp only [Act.put, List.setIfInBounds_toArray, List.set_cons_zero, List.set_cons_succ]))
        (refine TD.val0 (v := ?v38) (by simp only [List.getElem?_toArray, List.getElem?_cons_succ, List.getElem?_cons_zero]; rfl) rfl ?hw38 (fun w1 => ?hy38) ?hn38; (case hw38 => rfl); (case hy38 => (go_simp; (try with_reducible rfl))); (try simp only [Act.put, List.setIfInBounds_toArray, List.set_cons_zero, List.set_cons_succ]))
        refine TD.eff (by simp only [List.getElem?_toArray, List.getElem?_cons_succ, List.getElem?_cons_zero]; rfl) rfl (fun wE hr => ?_)
        have kl := hr.mod.at0 kl
        have kn := hr.mod.at0 kn
        have kp10 := hr.mod.at0 kp10
        have kp11 := hr.mod.at0 kp11
        have mE := hr.mod
        (refine eff_store (X := ?X39) (Y := ?Y39) (w' := ?w39) (by simp only [List.getElem?_toArray, List.getElem?_cons_succ, List.getElem?_cons_zero]; rfl) ?hw39 rfl ?hx39 ?hz39 ?hy39 ?hn39; (case hw39 => rfl); (case hx39 => (simp only [Act.eval, Array.getD_eq_getD_getElem?, List.getElem?_toArray, List.getElem?_cons_succ, List.getElem?_cons_zero, Option.getD_some]; (try rfl))); (case hz39 => (simp only [Act.eval, Array.getD_eq_getD_getElem?, List.getElem?_toArray, List.getElem?_cons_succ, List.getElem?_cons_zero, Option.getD_some]; (try rfl))); (case hy39 => (go_simp; (try with_reducible rfl))))
        (first | refine TE.nil_set kp11 (fun w4 kp11 mS => ?_) | refine TE.nil_setCell kp11 (fun w4 kp11 mS => ?_))
        (try simp only [Array.setIfInBounds, List.setIfInBounds_toArray, List.set_cons_zero, List.set_cons_succ] at kp11)
        have kl := mS.at_ne kl (by omega)
        have kn := mS.at_ne kn (by omega)
        have kp10 := mS.at_ne kp10 (by omega)
        have mm := (mm.then0 mE).thenB mS (.inl (by omega))
        go_upto_region 10 with fail
        have Lkl := lt_size kl
        have Lkp10 := lt_size kp10
        have Lkp11 := lt_size kp11
        have Lkn := lt_size kn
        refine wp_pass0 (C := fun _ _ _ => False) (κ := fun i => [0, 0, 1, 1, 5].getD i 0) [0, 1, 2, 3, 4] (by kernel_rfl) (by kernel_rfl) (fun _ _ d _ _ h => by cases d <;> exact h) ?_
        (refine TD.val0 (v := ?v40) (by simp only [List.getElem?_toArray, List.getElem?_cons_succ, List.getElem?_cons_zero]; rfl) rfl ?hw40 (fun w1 => ?hy40) ?hn40; (case hw40 => rfl); (case hy40 => (go_simp; (try with_reducible rfl))); (try simp only [Act.put, List.setIfInBounds_toArray, List.set_cons_zero, List.set_cons_succ]))
        (refine TD.val0 (v := ?v41) (by simp only [List.getElem?_toArray, List.getElem?_cons_succ, List.getElem?_cons_zero]; rfl) rfl ?hw41 (fun w1 => ?hy41) ?hn41; (case hw41 => rfl); (case hy41 => (go_simp; (try with_reducible rfl))); (try simp only [Act.put, List.setIfInBounds_toArray, List.set_cons_zero, List.set_cons_succ]))
        (refine TD.load (v := ?v42) (p := ?p42) (Mod.refl _ _) (by simp only [List.getElem?_toArray, List.getElem?_cons_succ, List.getElem?_cons_zero]; rfl) rfl ?hw42 rfl ?hx42 (fun wq hSq => ?hy42) ?hn42; (case hw42 => rfl); (case hx42 => (simp only [Act.eval, Array.getD_eq_getD_getElem?, List.getElem?_toArray, List.getElem?_cons_succ, List.getElem?_cons_zero, Option.getD_some]; (try rfl))); (case hy42 => (have klq := hSq.at kl (fun h => h); have kp10q := hSq.at kp10 (fun h => h); have kp11q := hSq.at kp11 (fun h => h); have knq := hSq.at kn (fun h => h); go_simp; (try with_reducible rfl))); (try simp only [Act.put, List.setIfInBounds_toArray, List.set_cons_zero, List.set_cons_succ]))
        (refine TD.load (v := ?v43) (p := ?p43) (Mod.refl _ _) (by simp only [List.getElem?_toArray, List.getElem?_cons_succ, List.getElem?_cons_zero]; rfl) rfl ?hw43 rfl ?hx43 (fun wq hSq => ?hy43) ?hn43; (case hw43 => rfl); (case hx43 => (simp only [Act.eval, Array.getD_eq_getD_getElem?, List.getElem?_toArray, List.getElem?_cons_succ, List.getElem?_cons_zero, Option.getD_some]; (try rfl))); (case hy43 => (have klq := hSq.at kl (fun h => h); have kp10q := hSq.at kp10 (fun h => h); have kp11q := hSq.at kp11 (fun h => h); have knq := hSq.at kn (fun h => h); go_simp; (try with_reducible rfl))); (try simp only [Act.put, List.setIfInBounds_toArray, List.set_cons_zero, List.set_cons_succ]))
        refine TD.eff (by simp only [List.getElem?_toArray, List.getElem?_cons_succ, List.getElem?_cons_zero]; rfl) rfl (fun wE hr => ?_)
        have kl := hr.mod.at0 kl
        have kp10 := hr.mod.at0 kp10
        have kp11 := hr.mod.at0 kp11
        have kn := hr.mod.at0 kn
        have mE := hr.mod
        obtain ⟨es44, cl44, hrun44, Mkn⟩ := MN.update keyT Try.underlying70 wE kn k (c0,c1+1)
        (refine eff_update (X := ?X44) (Y := ?Y44) (Z := ?Z44) (w' := ?w44) (by simp only [List.getElem?_toArray, List.getElem?_cons_succ, List.getElem?_cons_zero]; rfl) ?hw44 rfl ?hx44 ?hz44 ?hv44 ?hy44 ?hn44; (case hw44 => rfl); (case hx44 => (simp only [Act.eval, Array.getD_eq_getD_getElem?, List.getElem?_toArray, List.getElem?_cons_succ, List.getElem?_cons_zero, Option.getD_some]; (try rfl))); (case hz44 => (simp only [Act.eval, Array.getD_eq_getD_getElem?, List.getElem?_toArray, List.getElem?_cons_succ, List.getElem?_cons_zero, Option.getD_some]; (try rfl))); (case hv44 => (simp only [Act.eval, Array.getD_eq_getD_getElem?, List.getElem?_toArray, List.getElem?_cons_succ, List.getElem?_cons_zero, Option.getD_some]; (try rfl))); (case hy44 => exact hrun44))
        (first | refine TE.nil_set kn (fun w5 kn mS => ?_) | refine TE.nil_setCell kn (fun w5 kn mS => ?_))
        (try simp only [Array.setIfInBounds, List.setIfInBounds_toArray, List.set_cons_zero, List.set_cons_succ] at kn)
        have kl := mS.at_ne kl (by omega)
        have kp10 := mS.at_ne kp10 (by omega)
        have kp11 := mS.at_ne kp11 (by omega)
        have mm := (mm.then0 mE).thenB mS (.inl (by omega))
        go_wp2_with fail
        go_roundw
        case rel => exact ⟨j + 1, _, _, _, by omega, by go_num, kn, Mkn, HST.out, mm⟩
        case measure => simp [intOf]; omega
    · obtain rfl : j = l.length := by omega
      rw [List.take_length] at hni
      have hrg := run_range_map (P := Try.prog) wr 70 42 72 nb es ck Try.underlying70 kn
      have NI := Lib.hid hni
      clear hni
      go_wp2_with fail
      obtain ⟨w2, rb, hrb, kr, m2, e2⟩ : ∃ w2 rb, wr.heap.size = rb ∧ w2.heap[rb]? = some (.mapIter (some nb) ck #[] ck) ∧ Mod (fun _ => False) wr w2 ∧ w2 = wr.alloc (.mapIter (some nb) ck #[] ck) := ⟨_, _, rfl, heap_alloc_new _ _, (Mod.refl _ _).alloc _, rfl⟩
      rw [← e2, hrb]
      have hrb2 : w.heap.size ≤ rb := by
        have := hm.size
        omega
      have hit := IterAt.start MN kr
      have kn2 := m2.at0 kn
      have mm2 := hm.then0 m2
      clear e2 hrb hrg kn hm m2 kr hlt hj
      go_loopw [6] (fun s6 ws => s6 = .int .i64 0 ∧ ∃ rem, IterAt ws rb nb kv cv es ck rem ∧ (∀ p ∈ rem, p ∈ need) ∧ (∀ p ∈ need, p ∈ rem ∨ okp L i p) ∧ Mod (fun _ => False) w ws ∧ ws.heap[nb]? = some (.map es ck)) (fun _ ws => leftN ws rb nb)
      case atStart => exact ⟨rfl, need, hit, fun p h => h, fun p h => .inl h, mm2, kn2⟩
      case round =>
        clear hit kn2 mm2 w2
        obtain ⟨rfl, rem, hit, hsub, hall, hm, kn⟩ := hrel
        have hmeas := hit.leftN kn
        have HL := Lib.hid hmeas
        clear hmeas
        rcases hit.next (P := Try.prog) MN kn 0 with ⟨rfl, hrun⟩ | ⟨p, rem', w3, it, hperm, hrun, kr3, m3, kn3, hent⟩
        · have hok : ∀ x, (locksOf l i).count x ≤ L.count x := need_all NI.out (fun p hp => (hall p hp).resolve_left (by simp))
          have HO := Lib.hid hok
          have hT0 := H.out.mod0 hm
          clear hit hsub hall hok HL kn MN
          go_wp2_with fail
          clear hrun
          have hm0 : Mod (fun i => i = hb ∨ i = wb) w wr := hm.mono (fun _ _ h => h.elim)
          go_loopw [74] (fun s74 wx => ∃ j : Nat, j ≤ l.length ∧ s74 = .int .i64 j ∧ TabAt wx t hb wb n (subL L (l.take j) i) ∧ Mod (fun i => i = hb ∨ i = wb) w wx) (fun s74 _ => l.length - (intOf s74).toNat)
          case atStart => exact ⟨0, by omega, rfl, hT0, hm0⟩
          case round =>
            clear hT0 hm0 hm
            obtain ⟨j, hj, rfl, hT, hm⟩ := hrel
            have hl2 := hl.modT H.out hm
            by_cases hlt : j < l.length
            · obtain ⟨r, hr⟩ : ∃ r, l[j]? = some r := ⟨_, List.getElem?_eq_getElem hlt⟩
              obtain ⟨b, o, C, U, fr, rfl, kl, hc⟩ : ∃ b o C U fr, a = some ⟨b, o, none⟩ ∧ wr.heap[b]? = some (.cells C U fr) ∧
                  ∀ i r, l[i]? = some r → C.extract (o + i * 34) (o + i * 34 + 34) = rc r.k r.s r.w ∧ o + i * 34 + 34 ≤ C.size := by
                rcases hl2 with rfl | h
                · simp at hr
                · exact h
              obtain ⟨hx, hle⟩ := hc j r hr
              have htake : l.take (j + 1) = l.take j ++ [r] := by
                rw [List.take_add_one, hr]
                rfl
              have hsub : subL L (l.take (j + 1)) i = (subL L (l.take j) i).erase (r.k, r.w, i) := by rw [htake, subL_snoc]
              have hlenj : (subL L (l.take j) i).length ≤ 1000000 := Nat.le_trans (subL_len i _ L) hL
              have hin : 0 < (subL L (l.take j) i).count (r.k, r.w, i) := by
                rw [subL_count]
                have h1 := HO.out (r.k, r.w, i)
                have h2 : l = l.take j ++ r :: l.drop (j + 1) := by
                  conv => lhs; rw [← List.take_append_drop (j + 1) l, htake]
                  simp
                have h3 : (locksOf l i).count (r.k, r.w, i) = (locksOf (l.take j) i).count (r.k, r.w, i) + 1 + (locksOf (l.drop (j + 1)) i).count (r.k, r.w, i) := by
                  conv => lhs; rw [h2]
                  simp [locksOf, List.count_append, List.count_cons]
                  omega
                omega
              have hcnt : ∀ x : Lk, ((subL L (l.take (j + 1)) i).count x : Int) = ((subL L (l.take j) i).count x : Int) + if x = (r.k, r.w, i) then -1 else 0 := fun x => by
                rw [hsub, List.count_erase]
                by_cases hx : x = (r.k, r.w, i)
                · subst hx
                  simp
                  omega
                · simp [hx, Ne.symm hx]
              obtain ⟨k, s, b⟩ := r
              dsimp only at hx hcnt
              have HC := Lib.hid hcnt
              have HT2 := Lib.hid hT
              clear hc hr htake hsub hcnt hl2 hT hin
              have mm := hm
              go_upto_region 20 with fail
              have Lkl := lt_size kl
              refine wp_pass0 (C := fun _ _ _ => False) (κ := fun i => [0, 1, 3, 4].getD i 0) [0, 1, 2, 3] (by kernel_rfl) (by kernel_rfl) (fun _ _ d _ _ h => by cases d <;> exact h) ?_
              (refine TD.val0 (v := ?v45) (by simp only [List.getElem?_toArray, List.getElem?_cons_succ, List.getElem?_cons_zero]; rfl) rfl ?hw45 (fun w1 => ?hy45) ?hn45; (case hw45 => rfl); (case hy45 => (go_simp; (try with_reducible rfl))); (try simp only [Act.put, List.setIfInBounds_toArray, List.set_cons_zero, List.set_cons_succ]))
              (refine TD.load (v := ?v46) (p := ?p46) (Mod.refl _ _) (by simp only [List.getElem?_toArray, List.getElem?_cons_succ, List.getElem?_cons_zero]; rfl) rfl ?hw46 rfl ?hx46 (fun wq hSq => ?hy46) ?hn46; (case hw46 => rfl); (case hx46 => (simp only [Act.eval, Array.getD_eq_getD_getElem?, List.getElem?_toArray, List.getElem?_cons_succ, List.getElem?_cons_zero, Option.getD_some]; (try rfl))); (case hy46 => (have klq := hSq.at kl (fun h => h); go_simp; (try with_reducible rfl))); (try simp only [Act.put, List.setIfInBounds_toArray, List.set_cons_zero, List.set_cons_succ]))
              (refine TD.allocB (by simp only [List.getElem?_toArray, List.getElem?_cons_succ, List.getElem?_cons_zero]; rfl) rfl ?hw47 rfl rfl alRole (fun p16 hp16 => ?hn47); (case hw47 => rfl); (try simp only [Act.put, List.setIfInBounds_toArray, List.set_cons_zero, List.set_cons_succ]))
              (refine TD.storeB (d := ?d48) (T := ?T48) (y := ?y48) (p := ?p48) (b := ?b48) (v := ?v48) (by simp only [List.getElem?_toArray, List.getElem?_cons_succ, List.getElem?_cons_zero]; rfl) rfl ?hw48 ?hd48 ?hop48 ?hev48 ?hx48 ?hb48 ?htag48 (fun w1 hb1 => ?hy48) ?hn48; (case hw48 => rfl); (case hd48 => rfl); (case hop48 => rfl); (case hev48 => (simp only [Act.eval, Array.getD_eq_getD_getElem?, List.getElem?_toArray, List.getElem?_cons_succ, List.getElem?_cons_zero, Option.getD_some]; (try rfl))); (case hx48 => (simp only [Act.eval, Array.getD_eq_getD_getElem?, List.getElem?_toArray, List.getElem?_cons_succ, List.getElem?_cons_zero, Option.getD_some]; (try rfl))); (case hb48 => first | exact Bx.set_same _ _ _ | (simp only [Bx.set_same]; rfl)); (case hy48 => (go_simp; (try with_reducible rfl))); (try simp only [Act.put, List.setIfInBounds_toArray, List.set_cons_zero, List.set_cons_succ]))
              refine TD.nil (fun w2 hr => ?_)
              have kl := hr.mod.at kl (fun h => h)
              have kp16 := hr.box p16 _ (by first | exact Bx.set_same _ _ _ | (simp only [Bx.set_same]; rfl)); dsimp only [Value.cells] at kp16; obtain ⟨gp16, kp16⟩ := kp16
              have mm := mm.then0 hr.mod
              have hT3 := HT2.out.mod0 hr.mod
              have HT3 := Lib.hid hT3
              clear hT3
              go_wp2_with (go_at_call 29; refine (turn_c t hb wb n _ (subL L (l.take (j + 1)) i) k s b i (-1) _ HT3.out hlenj (.inr rfl) HC.out).mono ?_; rintro e w' ⟨rfl, hT4, hm4⟩)
              go_roundw
              case rel => exact ⟨j + 1, by omega, by go_num, hT4, mm.trans hm4⟩
              case measure => simp [intOf]; omega
            · obtain rfl : j = l.length := by omega
              rw [List.take_length] at hT
              go_wp2
              go_ret
              exact .inr ⟨rfl, HO.out, hT, hm⟩
        · obtain ⟨k, c0, c1⟩ := p
          have hp : (k, c0, c1) ∈ need := hsub _ (hperm.mem_iff.2 (by simp))
          have hlen2 := hperm.length_eq
          have HP := Lib.hid hperm
          have HS := Lib.hid hsub
          have HA := Lib.hid hall
          have mm := hm.thenB m3 (.inl hrb2)
          have HE : Hid (∀ wq, Mod (fun _ => False) w3 wq → (Instr.entry (.pointer (some ⟨rb, 0, none⟩))).run Try.prog wq = .ok (.tuple #[.agg (kc k), .agg #[.int .i64 c0, .int .i64 c1]]) wq) := Lib.hid fun wq hm => (hent wq (hm.at0 kr3) (hm.at0 kn3)).1
          have HI := Lib.hid hent
          have hrun2 : (Instr.next (.pointer (some ⟨rb, 0, none⟩)) false 0).run Try.prog wr = .ok (.tuple #[.bool true, .agg (kc k), .agg #[.int .i64 c0, .int .i64 c1]]) w3 := hrun
          clear hperm hsub hit hent hm m3 hrun
          go_upto_region 14 with fail
          have hent2 := HE.out
          have Lkr3 := lt_size kr3
          have Lkn3 := lt_size kn3
          refine wp_pass0 (C := fun _ _ _ => False) (κ := fun i => [1, 0, 0, 3, 3, 4, 4].getD i 0) [0, 1, 2, 3, 4, 5, 6] (by kernel_rfl) (by kernel_rfl) (fun _ _ d _ _ h => by cases d <;> exact h) ?_
          (refine TD.entry (v := ?v49) (p := ?p49) (Mod.refl _ _) (by simp only [List.getElem?_toArray, List.getElem?_cons_succ, List.getElem?_cons_zero]; rfl) rfl ?hw49 rfl ?hx49 (fun wq hSq => ?hy49) ?hn49; (case hw49 => rfl); (case hx49 => (simp only [Act.eval, Array.getD_eq_getD_getElem?, List.getElem?_toArray, List.getElem?_cons_succ, List.getElem?_cons_zero, Option.getD_some]; (try rfl))); (case hy49 => (rw [hent2 wq hSq]; (try with_reducible rfl))); (try simp only [Act.put, List.setIfInBounds_toArray, List.set_cons_zero, List.set_cons_succ]))
          (refine TD.val0 (v := ?v50) (by simp only [List.getElem?_toArray, List.getElem?_cons_succ, List.getElem?_cons_zero]; rfl) rfl ?hw50 (fun w1 => ?hy50) ?hn50; (case hw50 => rfl); (case hy50 => (go_simp; (try with_reducible rfl))); (try simp only [Act.put, List.setIfInBounds_toArray, List.set_cons_zero, List.set_cons_succ]))
          (refine TD.val0 (v := ?v51) (by simp only [List.getElem?_toArray, List.getElem?_cons_succ, List.getElem?_cons_zero]; rfl) rfl ?hw51 (fun w1 => ?hy51) ?hn51; (case hw51 => rfl); (case hy51 => (go_simp; (try with_reducible rfl))); (try simp only [Act.put, List.setIfInBounds_toArray, List.set_cons_zero, List.set_cons_succ]))
          (refine TD.allocB (by simp only [List.getElem?_toArray, List.getElem?_cons_succ, List.getElem?_cons_zero]; rfl) rfl ?hw52 rfl rfl alKey (fun p12 hp12 => ?hn52); (case hw52 => rfl); (try simp only [Act.put, List.setIfInBounds_toArray, List.set_cons_zero, List.set_cons_succ]))
          (refine TD.allocB (by simp only [List.getElem?_toArray, List.getElem?_cons_succ, List.getElem?_cons_zero]; rfl) rfl ?hw53 rfl rfl alCounts (fun p13 hp13 => ?hn53); (case hw53 => rfl); (try simp only [Act.put, List.setIfInBounds_toArray, List.set_cons_zero, List.set_cons_succ]))
          obtain ⟨ne_p13_p12, hp13⟩ := Bx.set_none hp13
          (refine TD.storeB (d := ?d54) (T := ?T54) (y := ?y54) (p := ?p54) (b := ?b54) (v := ?v54) (by simp only [List.getElem?_toArray, List.getElem?_cons_succ, List.getElem?_cons_zero]; rfl) rfl ?hw54 ?hd54 ?hop54 ?hev54 ?hx54 ?hb54 ?htag54 (fun w1 hb1 => ?hy54) ?hn54; (case hw54 => rfl); (case hd54 => rfl); (case hop54 => rfl); (case hev54 => (simp only [Act.eval, Array.getD_eq_getD_getElem?, List.getElem?_toArray, List.getElem?_cons_succ, List.getElem?_cons_zero, Option.getD_some]; (try rfl))); (case hx54 => (simp only [Act.eval, Array.getD_eq_getD_getElem?, List.getElem?_toArray, List.getElem?_cons_succ, List.getElem?_cons_zero, Option.getD_some]; (try rfl))); (case hb54 => first | exact Bx.set_same _ _ _ | (simp only [Bx.set_ne _ (Ne.symm ne_p13_p12), Bx.set_ne _ ne_p13_p12, Bx.set_same]; rfl)); (case hy54 => (go_simp; (try with_reducible rfl))); (try simp only [Act.put, List.setIfInBounds_toArray, List.set_cons_zero, List.set_cons_succ]))
          (refine TD.storeB (d := ?d55) (T := ?T55) (y := ?y55) (p := ?p55) (b := ?b55) (v := ?v55) (by simp only [List.getElem?_toArray, List.getElem?_cons_succ, List.getElem?_cons_zero]; rfl) rfl ?hw55 ?hd55 ?hop55 ?hev55 ?hx55 ?hb55 ?htag55 (fun w1 hb1 => ?hy55) ?hn55; (case hw55 => rfl); (case hd55 => rfl); (case hop55 => rfl); (case hev55 => (simp only [Act.eval, Array.getD_eq_getD_getElem?, List.getElem?_toArray, List.getElem?_cons_succ, List.getElem?_cons_zero, Option.getD_some]; (try rfl))); (case hx55 => (simp only [Act.eval, Array.getD_eq_getD_getElem?, List.getElem?_toArray, List.getElem?_cons_succ, List.getElem?_cons_zero, Option.getD_some]; (try rfl))); (case hb55 => first | exact Bx.set_same _ _ _ | (simp only [Bx.set_ne _ (Ne.symm ne_p13_p12), Bx.set_ne _ ne_p13_p12, Bx.set_same]; rfl)); (case hy55 => (go_simp; (try with_reducible rfl))); (try simp only [Act.put, List.setIfInBounds_toArray, List.set_cons_zero, List.set_cons_succ]))
          refine TD.nil (fun w4 hr => ?_)
          have kr3 := hr.mod.at kr3 (fun h => h)
          have kn3 := hr.mod.at kn3 (fun h => h)
          have kp12 := hr.box p12 _ (by first | exact Bx.set_same _ _ _ | (simp only [Bx.set_ne _ (Ne.symm ne_p13_p12), Bx.set_ne _ ne_p13_p12, Bx.set_same]; rfl)); dsimp only [Value.cells] at kp12; obtain ⟨gp12, kp12⟩ := kp12
          have kp13 := hr.box p13 _ (by first | exact Bx.set_same _ _ _ | (simp only [Bx.set_ne _ (Ne.symm ne_p13_p12), Bx.set_ne _ ne_p13_p12, Bx.set_same]; rfl)); dsimp only [Value.cells] at kp13; obtain ⟨gp13, kp13⟩ := kp13
          clear hent2 HE
          have mm := mm.then0 hr.mod
          obtain ⟨hbw, kt, eh, ch, ew, cw, mh, mw, kh, Mh, kw, Mw, I⟩ := H.out.mod0 mm
          have hd := I.held k i
          have lh : ∀ wq, Mod (fun _ => False) w4 wq → (Instr.lookup 46 (.map (some hb)) (.agg (sc k (i.val : Int))) false).run Try.prog wq = .ok (.agg #[.int .i64 (L.count (k, false, i) : Int), .int .i64 (L.count (k, true, i) : Int)]) wq := fun wq hm => by
            have := Mh.lookupD spotT Try.underlying46 zero_c wq (hm.at0 kh) (k, i)
            rw [hd] at this
            exact this
          clear hd hbw kw Mw I
          go_upto_region 15 with fail
          have Lkt := lt_size kt
          have Lkh := lt_size kh
          have Lkr3 := lt_size kr3
          have Lkn3 := lt_size kn3
          have Lkp12 := lt_size kp12
          have Lkp13 := lt_size kp13
          refine wp_pass (C := fun _ _ _ => False) (κ := fun i => [0, 0, 0, 1, 1, 0, 0, 1, 3, 4].getD i 0) [0, 1, 2, 3, 4, 5, 6, 7, 8, 9] (by kernel_rfl) (by kernel_rfl) (fun _ _ d _ _ h => by cases d <;> exact h) ?_
          (refine TD.val0 (v := ?v56) (by simp only [List.getElem?_toArray, List.getElem?_cons_succ, List.getElem?_cons_zero]; rfl) rfl ?hw56 (fun w1 => ?hy56) ?hn56; (case hw56 => rfl); (case hy56 => (go_simp; (try with_reducible rfl))); (try simp only [Act.put, List.setIfInBounds_toArray, List.set_cons_zero, List.set_cons_succ]))
          (refine TD.val0 (v := ?v57) (by simp only [List.getElem?_toArray, List.getElem?_cons_succ, List.getElem?_cons_zero]; rfl) rfl ?hw57 (fun w1 => ?hy57) ?hn57; (case hw57 => rfl); (case hy57 => (go_simp; (try with_reducible rfl))); (try simp only [Act.put, List.setIfInBounds_toArray, List.set_cons_zero, List.set_cons_succ]))
          (refine TD.val0 (v := ?v58) (by simp only [List.getElem?_toArray, List.getElem?_cons_succ, List.getElem?_cons_zero]; rfl) rfl ?hw58 (fun w1 => ?hy58) ?hn58; (case hw58 => rfl); (case hy58 => (go_simp; (try with_reducible rfl))); (try simp only [Act.put, List.setIfInBounds_toArray, List.set_cons_zero, List.set_cons_succ]))
          (refine TD.load (v := ?v59) (p := ?p59) (Mod.refl _ _) (by simp only [List.getElem?_toArray, List.getElem?_cons_succ, List.getElem?_cons_zero]; rfl) rfl ?hw59 rfl ?hx59 (fun wq hSq => ?hy59) ?hn59; (case hw59 => rfl); (case hx59 => (simp only [Act.eval, Array.getD_eq_getD_getElem?, List.getElem?_toArray, List.getElem?_cons_succ, List.getElem?_cons_zero, Option.getD_some]; (try rfl))); (case hy59 => (have ktq := hSq.at kt (fun h => h); have khq := hSq.at kh (fun h => h); have kr3q := hSq.at kr3 (fun h => h); have kn3q := hSq.at kn3 (fun h => h); have kp12q := hSq.at kp12 (fun h => h); have kp13q := hSq.at kp13 (fun h => h); go_simp; (try with_reducible rfl))); (try simp only [Act.put, List.setIfInBounds_toArray, List.set_cons_zero, List.set_cons_succ]))
          (refine TD.load (v := ?v60) (p := ?p60) (Mod.refl _ _) (by simp only [List.getElem?_toArray, List.getElem?_cons_succ, List.getElem?_cons_zero]; rfl) rfl ?hw60 rfl ?hx60 (fun wq hSq => ?hy60) ?hn60; (case hw60 => rfl); (case hx60 => (simp only [Act.eval, Array.getD_eq_getD_getElem?, List.getElem?_toArray, List.getElem?_cons_succ, List.getElem?_cons_zero, Option.getD_some]; (try rfl))); (case hy60 => (have ktq := hSq.at kt (fun h => h); have khq := hSq.at kh (fun h => h); have kr3q := hSq.at kr3 (fun h => h); have kn3q := hSq.at kn3 (fun h => h); have kp12q := hSq.at kp12 (fun h => h); have kp13q := hSq.at kp13 (fun h => h); go_simp; (try with_reducible rfl))); (try simp only [Act.put, List.setIfInBounds_toArray, List.set_cons_zero, List.set_cons_succ]))
          (refine TD.val0 (v := ?v61) (by simp only [List.getElem?_toArray, List.getElem?_cons_succ, List.getElem?_cons_zero]; rfl) rfl ?hw61 (fun w1 => ?hy61) ?hn61; (case hw61 => rfl); (case hy61 => (go_simp; (try with_reducible rfl))); (try simp only [Act.put, List.setIfInBounds_toArray, List.set_cons_zero, List.set_cons_succ]))
          (refine TD.build (v := ?v62) (ps := ?p62) (by simp only [List.getElem?_toArray, List.getElem?_cons_succ, List.getElem?_cons_zero]; rfl) rfl ?hw62 rfl ?hx62 (fun w1 => ?hy62) ?hn62; (case hw62 => rfl); (case hx62 => (simp only [List.map_toArray, List.map_cons, List.map_nil, Act.eval, Array.getD_eq_getD_getElem?, List.getElem?_toArray, List.getElem?_cons_succ, List.getElem?_cons_zero, Option.getD_some]; (try rfl))); (case hy62 => (rw [buildSpot]; (try with_reducible rfl))); (try simp only [Act.put, List.setIfInBounds_toArray, List.set_cons_zero, List.set_cons_succ]))
          (refine TD.lookup (v := ?v63) (p := ?p63) (q := ?q63) (Mod.refl _ _) (by simp only [List.getElem?_toArray, List.getElem?_cons_succ, List.getElem?_cons_zero]; rfl) rfl ?hw63 rfl ?hx63 ?hz63 (fun wq hSq => ?hy63) ?hn63; (case hw63 => rfl); (case hx63 => (simp only [Act.eval, Array.getD_eq_getD_getElem?, List.getElem?_toArray, List.getElem?_cons_succ, List.getElem?_cons_zero, Option.getD_some]; (try rfl))); (case hz63 => (simp only [Act.eval, Array.getD_eq_getD_getElem?, List.getElem?_toArray, List.getElem?_cons_succ, List.getElem?_cons_zero, Option.getD_some]; (try rfl))); (case hy63 => (rw [lh wq hSq]; (try with_reducible rfl))); (try simp only [Act.put, List.setIfInBounds_toArray, List.set_cons_zero, List.set_cons_succ]))
          (refine TD.allocB (by simp only [List.getElem?_toArray, List.getElem?_cons_succ, List.getElem?_cons_zero]; rfl) rfl ?hw64 rfl rfl alCounts (fun p14 hp14 => ?hn64); (case hw64 => rfl); (try simp only [Act.put, List.setIfInBounds_toArray, List.set_cons_zero, List.set_cons_succ]))
          (refine TD.storeB (d := ?d65) (T := ?T65) (y := ?y65) (p := ?p65) (b := ?b65) (v := ?v65) (by simp only [List.getElem?_toArray, List.getElem?_cons_succ, List.getElem?_cons_zero]; rfl) rfl ?hw65 ?hd65 ?hop65 ?hev65 ?hx65 ?hb65 ?htag65 (fun w1 hb1 => ?hy65) ?hn65; (case hw65 => rfl); (case hd65 => rfl); (case hop65 => rfl); (case hev65 => (simp only [Act.eval, Array.getD_eq_getD_getElem?, List.getElem?_toArray, List.getElem?_cons_succ, List.getElem?_cons_zero, Option.getD_some]; (try rfl))); (case hx65 => (simp only [Act.eval, Array.getD_eq_getD_getElem?, List.getElem?_toArray, List.getElem?_cons_succ, List.getElem?_cons_zero, Option.getD_some]; (try rfl))); (case hb65 => first | exact Bx.set_same _ _ _ | (simp only [Bx.set_same]; rfl)); (case hy65 => (go_simp; (try with_reducible rfl))); (try simp only [Act.put, List.setIfInBounds_toArray, List.set_cons_zero, List.set_cons_succ]))
          refine TD.nil (fun w5 hr => ?_)
          have kt := hr.mod.at kt (fun h => h)
          have kh := hr.mod.at kh (fun h => h)
          have kr3 := hr.mod.at kr3 (fun h => h)
          have kn3 := hr.mod.at kn3 (fun h => h)
          have kp12 := hr.mod.at kp12 (fun h => h)
          have kp13 := hr.mod.at kp13 (fun h => h)
          have kp14 := hr.box p14 _ (by first | exact Bx.set_same _ _ _ | (simp only [Bx.set_same]; rfl)); dsimp only [Value.cells] at kp14; obtain ⟨gp14, kp14⟩ := kp14
          have mm := mm.then0 hr.mod
          clear lh
          go_upto_region 16 with fail
          by_cases h0 : (L.count (k, false, i) : Int) < c0
          ·
            have Lkr3 := lt_size kr3
            have Lkn3 := lt_size kn3
            have Lkp13 := lt_size kp13
            have Lkp14 := lt_size kp14
            refine wp_pass0 (C := fun _ _ _ => False) (κ := fun i => [0, 1, 0, 1, 0, 0, 0, 1, 0, 1, 0, 0].getD i 0) [0, 1, 2, 3, 4, 5, 6, 7, 8, 9, 10, 11] (by kernel_rfl) (by kernel_rfl) (fun _ _ d _ _ h => by cases d <;> exact h) ?_
            (refine TD.val0 (v := ?v66) (by simp only [List.getElem?_toArray, List.getElem?_cons_succ, List.getElem?_cons_zero]; rfl) rfl ?hw66 (fun w1 => ?hy66) ?hn66; (case hw66 => rfl); (case hy66 => (go_simp; (try with_reducible rfl))); (try simp only [Act.put, List.setIfInBounds_toArray, List.set_cons_zero, List.set_cons_succ]))
            (refine TD.load (v := ?v67) (p := ?p67) (Mod.refl _ _) (by simp only [List.getElem?_toArray, List.getElem?_cons_succ, List.getElem?_cons_zero]; rfl) rfl ?hw67 rfl ?hx67 (fun wq hSq => ?hy67) ?hn67; (case hw67 => rfl); (case hx67 => (simp only [Act.eval, Array.getD_eq_getD_getElem?, List.getElem?_toArray, List.getElem?_cons_succ, List.getElem?_cons_zero, Option.getD_some]; (try rfl))); (case hy67 => (have kr3q := hSq.at kr3 (fun h => h); have kn3q := hSq.at kn3 (fun h => h); have kp13q := hSq.at kp13 (fun h => h); have kp14q := hSq.at kp14 (fun h => h); go_simp; (try with_reducible rfl))); (try simp only [Act.put, List.setIfInBounds_toArray, List.set_cons_zero, List.set_cons_succ]))
            (refine TD.val0 (v := ?v68) (by simp only [List.getElem?_toArray, List.getElem?_cons_succ, List.getElem?_cons_zero]; rfl) rfl ?hw68 (fun w1 => ?hy68) ?hn68; (case hw68 => rfl); (case hy68 => (go_simp; (try with_reducible rfl))); (try simp only [Act.put, List.setIfInBounds_toArray, List.set_cons_zero, List.set_cons_succ]))
            (refine TD.load (v := ?v69) (p := ?p69) (Mod.refl _ _) (by simp only [List.getElem?_toArray, List.getElem?_cons_succ, List.getElem?_cons_zero]; rfl) rfl ?hw69 rfl ?hx69 (fun wq hSq => ?hy69) ?hn69; (case hw69 => rfl); (case hx69 => (simp only [Act.eval, Array.getD_eq_getD_getElem?, List.getElem?_toArray, List.getElem?_cons_succ, List.getElem?_cons_zero, Option.getD_some]; (try rfl))); (case hy69 => (have kr3q := hSq.at kr3 (fun h => h); have kn3q := hSq.at kn3 (fun h => h); have kp13q := hSq.at kp13 (fun h => h); have kp14q := hSq.at kp14 (fun h => h); go_simp; (try with_reducible rfl))); (try simp only [Act.put, List.setIfInBounds_toArray, List.set_cons_zero, List.set_cons_succ]))
            (refine TD.val0 (v := ?v70) (by simp only [List.getElem?_toArray, List.getElem?_cons_succ, List.getElem?_cons_zero]; rfl) rfl ?hw70 (fun w1 => ?hy70) ?hn70; (case hw70 => rfl); (case hy70 => (go_simp; (try with_reducible rfl))); (try simp only [Act.put, List.setIfInBounds_toArray, List.set_cons_zero, List.set_cons_succ]))
            (refine TD.val0 (v := ?v71) (by simp only [List.getElem?_toArray, List.getElem?_cons_succ, List.getElem?_cons_zero]; rfl) rfl ?hw71 (fun w1 => ?hy71) ?hn71; (case hw71 => rfl); (case hy71 => (go_simp; (try with_reducible rfl))); (try simp only [Act.put, List.setIfInBounds_toArray, List.set_cons_zero, List.set_cons_succ]))
            (refine TD.pass (by simp only [List.getElem?_toArray, List.getElem?_cons_succ, List.getElem?_cons_zero]; rfl) rfl ?hw72 ?hn72; (case hw72 => rfl); (try simp only [Act.put, List.setIfInBounds_toArray, List.set_cons_zero, List.set_cons_succ]))
            (refine TD.pass1 (by simp only [List.getElem?_toArray, List.getElem?_cons_succ, List.getElem?_cons_zero]; rfl) rfl ?hw73 ?hn73; (case hw73 => rfl); (try simp only [Act.put, List.setIfInBounds_toArray, List.set_cons_zero, List.set_cons_succ]))
            (refine TD.pass (by simp only [List.getElem?_toArray, List.getElem?_cons_succ, List.getElem?_cons_zero]; rfl) rfl ?hw74 ?hn74; (case hw74 => rfl); (try simp only [Act.put, List.setIfInBounds_toArray, List.set_cons_zero, List.set_cons_succ]))
            (refine TD.pass1 (by simp only [List.getElem?_toArray, List.getElem?_cons_succ, List.getElem?_cons_zero]; rfl) rfl ?hw75 ?hn75; (case hw75 => rfl); (try simp only [Act.put, List.setIfInBounds_toArray, List.set_cons_zero, List.set_cons_succ]))
            (refine TD.pass (by simp only [List.getElem?_toArray, List.getElem?_cons_succ, List.getElem?_cons_zero]; rfl) rfl ?hw76 ?hn76; (case hw76 => rfl); (try simp only [Act.put, List.setIfInBounds_toArray, List.set_cons_zero, List.set_cons_succ]))
            (refine TD.val0 (v := ?v77) (by simp only [List.getElem?_toArray, List.getElem?_cons_succ, List.getElem?_cons_zero]; rfl) rfl ?hw77 (fun w1 => ?hy77) ?hn77; (case hw77 => rfl); (case hy77 => (go_simp; (try with_reducible rfl))); (try simp only [Act.put, List.setIfInBounds_toArray, List.set_cons_zero, List.set_cons_succ]))
            refine TD.nil (fun w6 hr => ?_)
            have kr3 := hr.mod.at kr3 (fun h => h)
            have kn3 := hr.mod.at kn3 (fun h => h)
            have kp13 := hr.mod.at kp13 (fun h => h)
            have kp14 := hr.mod.at kp14 (fun h => h)
            have mm := mm.then0 hr.mod
            go_wp2_with fail
            go_ret
            exact .inl ⟨rfl, need_not NI.out MN.nodup hp (fun h => by have := h.1; dsimp only at this; omega), mm⟩
          · by_cases h1 : (L.count (k, true, i) : Int) < c1
            ·
              have Lkr3 := lt_size kr3
              have Lkn3 := lt_size kn3
              have Lkp13 := lt_size kp13
              have Lkp14 := lt_size kp14
              refine wp_pass0 (C := fun _ _ _ => False) (κ := fun i => [0, 1, 0, 1, 0, 0, 0, 1, 0, 1, 0, 0].getD i 0) [0, 1, 2, 3, 4, 5, 6, 7, 8, 9, 10, 11] (by kernel_rfl) (by kernel_rfl) (fun _ _ d _ _ h => by cases d <;> exact h) ?_
              (refine TD.val0 (v := ?v78) (by simp only [List.getElem?_toArray, List.getElem?_cons_succ, List.getElem?_cons_zero]; rfl) rfl ?hw78 (fun w1 => ?hy78) ?hn78; (case hw78 => rfl); (case hy78 => (go_simp; (try with_reducible rfl))); (try simp only [Act.put, List.setIfInBounds_toArray, List.set_cons_zero, List.set_cons_succ]))
              (refine TD.load (v := ?v79) (p := ?p79) (Mod.refl _ _) (by simp only [List.getElem?_toArray, List.getElem?_cons_succ, List.getElem?_cons_zero]; rfl) rfl ?hw79 rfl ?hx79 (fun wq hSq => ?hy79) ?hn79; (case hw79 => rfl); (case hx79 => (simp only [Act.eval, Array.getD_eq_getD_getElem?, List.getElem?_toArray, List.getElem?_cons_succ, List.getElem?_cons_zero, Option.getD_some]; (try rfl))); (case hy79 => (have kr3q := hSq.at kr3 (fun h => h); have kn3q := hSq.at kn3 (fun h => h); have kp13q := hSq.at kp13 (fun h => h); have kp14q := hSq.at kp14 (fun h => h); go_simp; (try with_reducible rfl))); (try simp only [Act.put, List.setIfInBounds_toArray, List.set_cons_zero, List.set_cons_succ]))
              (refine TD.val0 (v := ?v80) (by simp only [List.getElem?_toArray, List.getElem?_cons_succ, List.getElem?_cons_zero]; rfl) rfl ?hw80 (fun w1 => ?hy80) ?hn80; (case hw80 => rfl); (case hy80 => (go_simp; (try with_reducible rfl))); (try simp only [Act.put, List.setIfInBounds_toArray, List.set_cons_zero, List.set_cons_succ]))
              (refine TD.load (v := ?v81) (p := ?p81) (Mod.refl _ _) (by simp only [List.getElem?_toArray, List.getElem?_cons_succ, List.getElem?_cons_zero]; rfl) rfl ?hw81 rfl ?hx81 (fun wq hSq => ?hy81) ?hn81; (case hw81 => rfl); (case hx81 => (simp only [Act.eval, Array.getD_eq_getD_getElem?, List.getElem?_toArray, List.getElem?_cons_succ, List.getElem?_cons_zero, Option.getD_some]; (try rfl))); (case hy81 => (have kr3q := hSq.at kr3 (fun h => h); have kn3q := hSq.at kn3 (fun h => h); have kp13q := hSq.at kp13 (fun h => h); have kp14q := hSq.at kp14 (fun h => h); go_simp; (try with_reducible rfl))); (try simp only [Act.put, List.setIfInBounds_toArray, List.set_cons_zero, List.set_cons_succ]))
              (refine TD.val0 (v := ?v82) (by simp only [List.getElem?_toArray, List.getElem?_cons_succ, List.getElem?_cons_zero]; rfl) rfl ?hw82 (fun w1 => ?hy82) ?hn82; (case hw82 => rfl); (case hy82 => (go_simp; (try with_reducible rfl))); (try simp only [Act.put, List.setIfInBounds_toArray, List.set_cons_zero, List.set_cons_succ]))
              (refine TD.val0 (v := ?v83) (by simp only [List.getElem?_toArray, List.getElem?_cons_succ, List.getElem?_cons_zero]; rfl) rfl ?hw83 (fun w1 => ?hy83) ?hn83; (case hw83 => rfl); (case hy83 => (go_simp; (try with_reducible rfl))); (try simp only [Act.put, List.setIfInBounds_toArray, List.set_cons_zero, List.set_cons_succ]))
              (refine TD.val0 (v := ?v84) (by simp only [List.getElem?_toArray, List.getElem?_cons_succ, List.getElem?_cons_zero]; rfl) rfl ?hw84 (fun w1 => ?hy84) ?hn84; (case hw84 => rfl); (case hy84 => (go_simp; (try with_reducible rfl))); (try simp only [Act.put, List.setIfInBounds_toArray, List.set_cons_zero, List.set_cons_succ]))
              (refine TD.load (v := ?v85) (p := ?p85) (Mod.refl _ _) (by simp only [List.getElem?_toArray, List.getElem?_cons_succ, List.getElem?_cons_zero]; rfl) rfl ?hw85 rfl ?hx85 (fun wq hSq => ?hy85) ?hn85; (case hw85 => rfl); (case hx85 => (simp only [Act.eval, Array.getD_eq_getD_getElem?, List.getElem?_toArray, List.getElem?_cons_succ, List.getElem?_cons_zero, Option.getD_some]; (try rfl))); (case hy85 => (have kr3q := hSq.at kr3 (fun h => h); have kn3q := hSq.at kn3 (fun h => h); have kp13q := hSq.at kp13 (fun h => h); have kp14q := hSq.at kp14 (fun h => h); go_simp; (try with_reducible rfl))); (try simp only [Act.put, List.setIfInBounds_toArray, List.set_cons_zero, List.set_cons_succ]))
              (refine TD.val0 (v := ?v86) (by simp only [List.getElem?_toArray, List.getElem?_cons_succ, List.getElem?_cons_zero]; rfl) rfl ?hw86 (fun w1 => ?hy86) ?hn86; (case hw86 => rfl); (case hy86 => (go_simp; (try with_reducible rfl))); (try simp only [Act.put, List.setIfInBounds_toArray, List.set_cons_zero, List.set_cons_succ]))
              (refine TD.load (v := ?v87) (p := ?p87) (Mod.refl _ _) (by simp only [List.getElem?_toArray, List.getElem?_cons_succ, List.getElem?_cons_zero]; rfl) rfl ?hw87 rfl ?hx87 (fun wq hSq => ?hy87) ?hn87; (case hw87 => rfl); (case hx87 => (simp only [Act.eval, Array.getD_eq_getD_getElem?, List.getElem?_toArray, List.getElem?_cons_succ, List.getElem?_cons_zero, Option.getD_some]; (try rfl))); (case hy87 => (have kr3q := hSq.at kr3 (fun h => h); have kn3q := hSq.at kn3 (fun h => h); have kp13q := hSq.at kp13 (fun h => h); have kp14q := hSq.at kp14 (fun h => h); go_simp; (try with_reducible rfl))); (try simp only [Act.put, List.setIfInBounds_toArray, List.set_cons_zero, List.set_cons_succ]))
              (refine TD.val0 (v := ?v88) (by simp only [List.getElem?_toArray, List.getElem?_cons_succ, List.getElem?_cons_zero]; rfl) rfl ?hw88 (fun w1 => ?hy88) ?hn88; (case hw88 => rfl); (case hy88 => (go_simp; (try with_reducible rfl))); (try simp only [Act.put, List.setIfInBounds_toArray, List.set_cons_zero, List.set_cons_succ]))
              (refine TD.val0 (v := ?v89) (by simp only [List.getElem?_toArray, List.getElem?_cons_succ, List.getElem?_cons_zero]; rfl) rfl ?hw89 (fun w1 => ?hy89) ?hn89; (case hw89 => rfl); (case hy89 => (go_simp; (try with_reducible rfl))); (try simp only [Act.put, List.setIfInBounds_toArray, List.set_cons_zero, List.set_cons_succ]))
              refine TD.nil (fun w6 hr => ?_)
              have kr3 := hr.mod.at kr3 (fun h => h)
              have kn3 := hr.mod.at kn3 (fun h => h)
              have kp13 := hr.mod.at kp13 (fun h => h)
              have kp14 := hr.mod.at kp14 (fun h => h)
              have mm := mm.then0 hr.mod
              go_wp2_with fail
              go_ret
              exact .inl ⟨rfl, need_not NI.out MN.nodup hp (fun h => by have := h.2; dsimp only at this; omega), mm⟩
            ·
              have Lkr3 := lt_size kr3
              have Lkn3 := lt_size kn3
              have Lkp13 := lt_size kp13
              have Lkp14 := lt_size kp14
              refine wp_pass0 (C := fun _ _ _ => False) (κ := fun i => [0, 1, 0, 1, 0, 0, 0, 1, 0, 1, 0, 0].getD i 0) [0, 1, 2, 3, 4, 5, 6, 7, 8, 9, 10, 11] (by kernel_rfl) (by kernel_rfl) (fun _ _ d _ _ h => by cases d <;> exact h) ?_
              (refine TD.val0 (v := ?v90) (by simp only [List.getElem?_toArray, List.getElem?_cons_succ, List.getElem?_cons_zero]; rfl) rfl ?hw90 (fun w1 => ?hy90) ?hn90; (case hw90 => rfl); (case hy90 => (go_simp; (try with_reducible rfl))); (try simp only [Act.put, List.setIfInBounds_toArray, List.set_cons_zero, List.set_cons_succ]))
              (refine TD.load (v := ?v91) (p := ?p91) (Mod.refl _ _) (by simp only [List.getElem?_toArray, List.getElem?_cons_succ, List.getElem?_cons_zero]; rfl) rfl ?hw91 rfl ?hx91 (fun wq hSq => ?hy91) ?hn91; (case hw91 => rfl); (case hx91 => (simp only [Act.eval, Array.getD_eq_getD_getElem?, List.getElem?_toArray, List.getElem?_cons_succ, List.getElem?_cons_zero, Option.getD_some]; (try rfl))); (case hy91 => (have kr3q := hSq.at kr3 (fun h => h); have kn3q := hSq.at kn3 (fun h => h); have kp13q := hSq.at kp13 (fun h => h); have kp14q := hSq.at kp14 (fun h => h); go_simp; (try with_reducible rfl))); (try simp only [Act.put, List.setIfInBounds_toArray, List.set_cons_zero, List.set_cons_succ]))
              (refine TD.val0 (v := ?v92) (by simp only [List.getElem?_toArray, List.getElem?_cons_succ, List.getElem?_cons_zero]; rfl) rfl ?hw92 (fun w1 => ?hy92) ?hn92; (case hw92 => rfl); (case hy92 => (go_simp; (try with_reducible rfl))); (try simp only [Act.put, List.setIfInBounds_toArray, List.set_cons_zero, List.set_cons_succ]))
              (refine TD.load (v := ?v93) (p := ?p93) (Mod.refl _ _) (by simp only [List.getElem?_toArray, List.getElem?_cons_succ, List.getElem?_cons_zero]; rfl) rfl ?hw93 rfl ?hx93 (fun wq hSq => ?hy93) ?hn93; (case hw93 => rfl); (case hx93 => (simp only [Act.eval, Array.getD_eq_getD_getElem?, List.getElem?_toArray, List.getElem?_cons_succ, List.getElem?_cons_zero, Option.getD_some]; (try rfl))); (case hy93 => (have kr3q := hSq.at kr3 (fun h => h); have kn3q := hSq.at kn3 (fun h => h); have kp13q := hSq.at kp13 (fun h => h); have kp14q := hSq.at kp14 (fun h => h); go_simp; (try with_reducible rfl))); (try simp only [Act.put, List.setIfInBounds_toArray, List.set_cons_zero, List.set_cons_succ]))
              (refine TD.val0 (v := ?v94) (by simp only [List.getElem?_toArray, List.getElem?_cons_succ, List.getElem?_cons_zero]; rfl) rfl ?hw94 (fun w1 => ?hy94) ?hn94; (case hw94 => rfl); (case hy94 => (go_simp; (try with_reducible rfl))); (try simp only [Act.put, List.setIfInBounds_toArray, List.set_cons_zero, List.set_cons_succ]))
              (refine TD.val0 (v := ?v95) (by simp only [List.getElem?_toArray, List.getElem?_cons_succ, List.getElem?_cons_zero]; rfl) rfl ?hw95 (fun w1 => ?hy95) ?hn95; (case hw95 => rfl); (case hy95 => (go_simp; (try with_reducible rfl))); (try simp only [Act.put, List.setIfInBounds_toArray, List.set_cons_zero, List.set_cons_succ]))
              (refine TD.val0 (v := ?v96) (by simp only [List.getElem?_toArray, List.getElem?_cons_succ, List.getElem?_cons_zero]; rfl) rfl ?hw96 (fun w1 => ?hy96) ?hn96; (case hw96 => rfl); (case hy96 => (go_simp; (try with_reducible rfl))); (try simp only [Act.put, List.setIfInBounds_toArray, List.set_cons_zero, List.set_cons_succ]))
              (refine TD.load (v := ?v97) (p := ?p97) (Mod.refl _ _) (by simp only [List.getElem?_toArray, List.getElem?_cons_succ, List.getElem?_cons_zero]; rfl) rfl ?hw97 rfl ?hx97 (fun wq hSq => ?hy97) ?hn97; (case hw97 => rfl); (case hx97 => (simp only [Act.eval, Array.getD_eq_getD_getElem?, List.getElem?_toArray, List.getElem?_cons_succ, List.getElem?_cons_zero, Option.getD_some]; (try rfl))); (case hy97 => (have kr3q := hSq.at kr3 (fun h => h); have kn3q := hSq.at kn3 (fun h => h); have kp13q := hSq.at kp13 (fun h => h); have kp14q := hSq.at kp14 (fun h => h); go_simp; (try with_reducible rfl))); (try simp only [Act.put, List.setIfInBounds_toArray, List.set_cons_zero, List.set_cons_succ]))
              (refine TD.val0 (v := ?v98) (by simp only [List.getElem?_toArray, List.getElem?_cons_succ, List.getElem?_cons_zero]; rfl) rfl ?hw98 (fun w1 => ?hy98) ?hn98; (case hw98 => rfl); (case hy98 => (go_simp; (try with_reducible rfl))); (try simp only [Act.put, List.setIfInBounds_toArray, List.set_cons_zero, List.set_cons_succ]))
              (refine TD.load (v := ?v99) (p := ?p99) (Mod.refl _ _) (by simp only [List.getElem?_toArray, List.getElem?_cons_succ, List.getElem?_cons_zero]; rfl) rfl ?hw99 rfl ?hx99 (fun wq hSq => ?hy99) ?hn99; (case hw99 => rfl); (case hx99 => (simp only [Act.eval, Array.getD_eq_getD_getElem?, List.getElem?_toArray, List.getElem?_cons_succ, List.getElem?_cons_zero, Option.getD_some]; (try rfl))); (case hy99 => (have kr3q := hSq.at kr3 (fun h => h); have kn3q := hSq.at kn3 (fun h => h); have kp13q := hSq.at kp13 (fun h => h); have kp14q := hSq.at kp14 (fun h => h); go_simp; (try with_reducible rfl))); (try simp only [Act.put, List.setIfInBounds_toArray, List.set_cons_zero, List.set_cons_succ]))
              (refine TD.val0 (v := ?v100) (by simp only [List.getElem?_toArray, List.getElem?_cons_succ, List.getElem?_cons_zero]; rfl) rfl ?hw100 (fun w1 => ?hy100) ?hn100; (case hw100 => rfl); (case hy100 => (go_simp; (try with_reducible rfl))); (try simp only [Act.put, List.setIfInBounds_toArray, List.set_cons_zero, List.set_cons_succ]))
              (refine TD.val0 (v := ?v101) (by simp only [List.getElem?_toArray, List.getElem?_cons_succ, List.getElem?_cons_zero]; rfl) rfl ?hw101 (fun w1 => ?hy101) ?hn101; (case hw101 => rfl); (case hy101 => (go_simp; (try with_reducible rfl))); (try simp only [Act.put, List.setIfInBounds_toArray, List.set_cons_zero, List.set_cons_succ]))
              refine TD.nil (fun w6 hr => ?_)
              have kr3 := hr.mod.at kr3 (fun h => h)
              have kn3 := hr.mod.at kn3 (fun h => h)
              have kp13 := hr.mod.at kp13 (fun h => h)
              have kp14 := hr.mod.at kp14 (fun h => h)
              have mm := mm.then0 hr.mod
              go_wp2_with fail
              have hit' := (HI.out _ kr3 kn3).2
              have hm6 := hit'.leftN kn3
              go_roundw
              case rel => exact ⟨rfl, rem', hit', fun p hp => HS.out p (HP.out.mem_iff.2 (by simp [hp])), fun p hp => by
                rcases HA.out p hp with h | h
                · rcases List.mem_cons.1 (HP.out.mem_iff.1 h) with rfl | h
                  · exact .inr ⟨by dsimp only; omega, by dsimp only; omega⟩
                  · exact .inl h
                · exact .inr h, mm, kn3⟩
              case measure =>
                rw [hm6, HL.out, hlen2]
                simp
theorem release_neg (t hb wb : Nat) (n : Int) (a : Option Addr) (l c : Nat) (i : Int) (w : World) (kt : w.heap[t]? = some (.cells #[.int .i64 n, .map (some hb), .map (some wb)] 49 (0, 0))) (hi : i < 0) :
    Calls Try.prog 15 #[.pointer (some ⟨t, 0, none⟩), .slice a l c, .int .i64 i] w fun e w' => e = .returned (.int .i64 1) ∧ w = w' := by
  have hmay := may_neg t hb wb n i w kt hi
  have HM := Lib.hid hmay
  clear hmay
  go_enter Try.func15, Try.ntmps15
  go_wp2_with (go_at_call 27; refine HM.out.mono ?_; rintro e w' ⟨rfl, rfl⟩)
  go_ret
  exact ⟨rfl, rfl⟩
theorem release_big (t hb wb : Nat) (n : Int) (a : Option Addr) (l c : Nat) (i : Int) (w : World) (kt : w.heap[t]? = some (.cells #[.int .i64 n, .map (some hb), .map (some wb)] 49 (0, 0))) (h0 : 0 ≤ i) (hi : n ≤ i) :
    Calls Try.prog 15 #[.pointer (some ⟨t, 0, none⟩), .slice a l c, .int .i64 i] w fun e w' => e = .returned (.int .i64 1) ∧ w = w' := by
  have hmay := may_big t hb wb n i w kt h0 hi
  have HM := Lib.hid hmay
  clear hmay
  go_enter Try.func15, Try.ntmps15
  go_wp2_with (go_at_call 27; refine HM.out.mono ?_; rintro e w' ⟨rfl, rfl⟩)
  go_ret
  exact ⟨rfl, rfl⟩
theorem release_nil  (a : Option Addr) (l c : Nat) (i : Int) (w : World)  :
    Calls Try.prog 15 #[.pointer none, .slice a l c, .int .i64 i] w fun e w' => e = .returned (.int .i64 2) ∧ w = w' := by
  have hmay := may_nil i w
  have HM := Lib.hid hmay
  clear hmay
  go_enter Try.func15, Try.ntmps15
  go_wp2_with (go_at_call 27; refine HM.out.mono ?_; rintro e w' ⟨rfl, rfl⟩)
  go_ret
  exact ⟨rfl, rfl⟩
theorem release_void (t : Nat) (a : Option Addr) (l c : Nat) (i : Int) (w : World) (kt : w.heap[t]? = some (.cells #[.int .i64 0, .map none, .map none] 49 (0, 0))) :
    Calls Try.prog 15 #[.pointer (some ⟨t, 0, none⟩), .slice a l c, .int .i64 i] w fun e w' => e = .returned (.int .i64 2) ∧ w = w' := by
  have hmay := may_void t i w kt
  have HM := Lib.hid hmay
  clear hmay
  go_enter Try.func15, Try.ntmps15
  go_wp2_with (go_at_call 27; refine HM.out.mono ?_; rintro e w' ⟨rfl, rfl⟩)
  go_ret
  exact ⟨rfl, rfl⟩
end Go.Proofs.Ytleenmldlbccmaa
