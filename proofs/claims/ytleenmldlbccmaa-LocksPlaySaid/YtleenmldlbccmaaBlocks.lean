/- LocksBlocks: whether roles conflict with some that were added, list by list, is the chapter's. -/
import Derived.Test.YtleenmldlbccmaaRHits
import Derived.Test.YtleenmldlbccmaaOwnG
namespace Go.Proofs.Ytleenmldlbccmaa
open Go.RowKit
open Go.ChangeMaps (setBlock)
set_option linter.unusedSimpArgs false
set_option linter.unusedVariables false
attribute [local go_sem ↓] wlKey wlRole wlSpot wlCounts wlBits ldKey ldRole ldSpot ldCounts ldBits stKey stRole stSpot stCounts stBits eqCounts eqBits eqKey1
attribute [local go_sem] eqBlk zKey_size zRole_size eqHeld cell_blk frozen_blk kc_ext rc_size rc_key rc_all rc_s rc_w rc_s' rc_w' rc_one sc_size sc_key sc_all sc_n sc_n' sc_one one_int one_bool one_ptr one_slice one_map zSpot_size kc_one kc_one0 Value.cells
def allOf (l : List Act') : List Role := l.flatMap (·.s.l)
theorem allOf_snoc (l : List Act') (i : Nat) (x : Act') (h : l[i]? = some x) : allOf (l.take (i + 1)) = allOf (l.take i) ++ x.s.l := by
  unfold allOf
  rw [List.take_add_one, h]
  simp
theorem allOf_len (l : List Act') (i : Nat) : (allOf (l.take i)).length + l.length ≤ sizeOfActs l := by
  have h1 : (allOf (l.take i)).length = ((l.take i).map fun x => x.s.l.length).sum := by
    unfold allOf
    rw [List.length_flatMap]
  have h2 : ((l.take i).map fun x => x.s.l.length).sum ≤ (l.map fun x => x.s.l.length).sum := by
    conv => rhs; rw [← List.take_append_drop i l, List.map_append, List.sum_append]
    omega
  unfold sizeOfActs
  omega
theorem len_of_mem {l : List Act'} {x : Act'} (h : x ∈ l) : x.s.l.length ≤ sizeOfActs l := by
  have : x.s.l.length ≤ (l.map fun x => x.s.l.length).sum := by
    obtain ⟨i, hi⟩ := List.mem_iff_getElem?.1 h
    have h1 := sum_take l i x hi
    conv => rhs; rw [← List.take_append_drop (i + 1) l, List.map_append, List.sum_append]
    omega
  unfold sizeOfActs
  omega
set_option maxRecDepth 20000 in
set_option maxHeartbeats 3200000 in
theorem blocks_c (a : Option Addr) (l : List Act') (c : Nat) (a2 : Option Addr) (ask : List Role) (c2 : Nat) (w : World) (hl : SlAt acv 3 w a l) (hlm : l.length ≤ 140737488355328) (hok : ∀ x ∈ l, ActOk' w x) (hask : RolesAt w a2 ask) (hlm2 : ask.length ≤ 140737488355328) :
    Calls Try.prog 8 #[.slice a l.length c, .slice a2 ask.length c2] w fun e w' => e = .returned (.bool true) ∧ Mod (fun _ => False) w w' := by
  have hgr := great_c a l c w hl hlm (fun x hx => len_small (hok x hx))
  have HG := Lib.hid hgr
  have HOK := Lib.hid hok
  clear hgr hok
  by_cases hbig : 100 < ask.length
  · have hbg : (100 : Int) < (ask.length : Int) := by omega
    go_enter Try.func8, Try.ntmps8
    go_wp2_with fail
    go_at_call 9
    refine HG.out.mono ?_
    rintro e w' ⟨b, rfl, _, rfl⟩
    cases b
    all_goals
      go_wp2_with (go_at_call 10; refine (lives_c _).mono ?_; rintro e w' ⟨rfl, hm2⟩)
      go_ret
      exact ⟨rfl, hm2⟩
  · have hbg : ¬ (100 : Int) < (ask.length : Int) := by omega
    go_enter Try.func8, Try.ntmps8
    go_wp2_with fail
    go_at_call 9
    refine HG.out.mono ?_
    rintro e w' ⟨b, rfl, hsz, rfl⟩
    cases b with
    | true =>
      go_wp2_with (go_at_call 10; refine (lives_c _).mono ?_; rintro e w' ⟨rfl, hm2⟩)
      go_ret
      exact ⟨rfl, hm2⟩
    | false =>
      replace hsz := hsz rfl
      clear HG
      go_wp2_with fail
      obtain ⟨w1, p0, v0, e1, e2, kn, kv, m1, ew⟩ : ∃ w1 p0 v0, w.heap.size = p0 ∧ w.heap.size + 1 = v0 ∧ w1.heap[p0]? = some (.cells #[.map none] 59 (0, 0)) ∧ w1.heap[v0]? = some (.cells #[.pointer none, .pointer (some ⟨p0, 0, none⟩)] 60 (0, 0)) ∧ Mod (fun _ => False) w w1 ∧
          w1 = (w.alloc (.cells #[.map none] 59)).alloc (.cells #[.pointer none, .pointer (some ⟨w.heap.size, 0, none⟩)] 60) := by
        obtain ⟨h1, h2⟩ := fresh2 w (.cells #[.map none] 59) (.cells #[.pointer none, .pointer (some ⟨w.heap.size, 0, none⟩)] 60)
        exact ⟨_, _, _, rfl, rfl, h1, h2, ((Mod.refl _ _).alloc _).alloc _, rfl⟩
      rw [← ew, e2, e1]
      have hwp : w.heap.size ≤ p0 := by omega
      clear ew e1 e2
      go_at_call 21
      refine (newBlocks_c w1).mono ?_
      rintro e w2 ⟨p, b, rfl, hp, hb, hB, m2⟩
      have ln := lt_size kn
      have lv := lt_size kv
      replace kn := m2.at0 kn
      replace kv := m2.at0 kv
      have hs2 := m2.size
      replace m2 := m1.trans m2
      have lp := lt_size hB.1
      have lb : b < w2.heap.size := by obtain ⟨_, _, _, kb, _⟩ := hB; exact lt_size kb
      have ls := m1.size
      go_wp2_with fail
      go_loopw [8, 9] (fun s8 s9 wr => ∃ (i : Nat) (m : List (Key × Bool)), i ≤ l.length ∧ s9 = .int .i64 i ∧ BlkAt wr p b m ∧ Hid (BInv m (allOf (l.take i))) ∧ SlOwn rcr 34 44 wr w2.heap.size s8 (allOf (l.take i)) ∧ wr.heap[p0]? = some (.cells #[.map none] 59 (0, 0)) ∧ wr.heap[v0]? = some (.cells #[.pointer none, .pointer (some ⟨p0, 0, none⟩)] 60 (0, 0)) ∧ w2.heap.size ≤ wr.heap.size ∧ Mod (fun _ => False) w wr) (fun _ s9 _ => l.length - (intOf s9).toNat)
      case atStart => exact ⟨0, [], by omega, rfl, hB, Lib.hid (by simpa [allOf] using BInv.nil), SlOwn.nil _ _, kn, kv, Nat.le_refl _, m2⟩
      case round =>
        clear hB kn kv m2
        obtain ⟨i, m, hi, rfl, hB, HI, hown, kn, kv, hge, hm⟩ := hrel
        by_cases hlt : i < l.length
        · obtain ⟨x, hx⟩ : ∃ x, l[i]? = some x := ⟨_, List.getElem?_eq_getElem hlt⟩
          obtain ⟨g, o, C, U, fr, rfl, kl, he, hle⟩ := (hl.mod0 hm).block hx
          have hC : C[o + i * 3 + 1]? = some x.s.v := cellC he (j := 1) rfl
          have hlg : g < w.heap.size := by
            obtain ⟨g', o', C', U', fr', ha', kl', _, _⟩ := hl.block hx
            cases ha'
            exact lt_size kl'
          have HX := HOK.out x (List.mem_of_getElem? hx)
          have hxr : RolesAt w x.s.a x.s.l := HX.1.1
          have HS := Lib.hid (allOf_snoc l i x hx)
          have HL1 := Lib.hid (allOf_len l i)
          have hxl : x.s.l.length ≤ 400 := Nat.le_trans (len_of_mem (List.mem_of_getElem? hx)) hsz
          have hal : (allOf (l.take i)).length ≤ 400 := by have := allOf_len l i; omega
          clear he hx HX
          obtain ⟨xb, xs, xn⟩ := x
          dsimp only at hC hxr hxl HS
          unfold Sl.v at hC
          generalize allOf (l.take i) = all at *
          generalize hga : allOf (l.take (i + 1)) = all' at *
          have HGA := Lib.hid hga
          clear hga
          obtain ⟨aq, cq, rfl, hq, haq, _⟩ := hown.at roleT
          have hxr2 := hxr.mod0 hm
          have HH := Lib.hid (HI.out.hits)
          have HO := Lib.hid hown
          clear hown
          go_upto_region 10 with fail
          generalize hcv : confl all xs.l = q0 at *
          have HQ := Lib.hid hcv
          clear hcv
          have Lkl := lt_size kl
          refine wp_pass (C := fun _ _ v => v = .bool q0) (κ := fun i => [0, 0, 0, 0, 0, 1, 2, 0, 0, 0, 0, 0, 1, 2, 0].getD i 0) [0, 1, 2, 3, 4, 5, 6, 7, 8, 9, 10, 11, 12, 13, 14] (by kernel_rfl) (by kernel_rfl) (fun _ _ d _ _ h => by cases d <;> exact h) ?_
          (refine TD.val0 (v := ?v1) (by simp only [List.getElem?_toArray, List.getElem?_cons_succ, List.getElem?_cons_zero]; rfl) rfl ?hw1 (fun w1 => ?hy1) ?hn1; (case hw1 => rfl); (case hy1 => (go_simp; (try with_reducible rfl))); (try simp only [Act.put, List.setIfInBounds_toArray, List.set_cons_zero, List.set_cons_succ]))
          (refine TD.val0 (v := ?v2) (by simp only [List.getElem?_toArray, List.getElem?_cons_succ, List.getElem?_cons_zero]; rfl) rfl ?hw2 (fun w1 => ?hy2) ?hn2; (case hw2 => rfl); (case hy2 => (go_simp; (try with_reducible rfl))); (try simp only [Act.put, List.setIfInBounds_toArray, List.set_cons_zero, List.set_cons_succ]))
          (refine TD.val0 (v := ?v3) (by simp only [List.getElem?_toArray, List.getElem?_cons_succ, List.getElem?_cons_zero]; rfl) rfl ?hw3 (fun w1 => ?hy3) ?hn3; (case hw3 => rfl); (case hy3 => (go_simp; (try with_reducible rfl))); (try simp only [Act.put, List.setIfInBounds_toArray, List.set_cons_zero, List.set_cons_succ]))
          (refine TD.val0 (v := ?v4) (by simp only [List.getElem?_toArray, List.getElem?_cons_succ, List.getElem?_cons_zero]; rfl) rfl ?hw4 (fun w1 => ?hy4) ?hn4; (case hw4 => rfl); (case hy4 => (go_simp; (try with_reducible rfl))); (try simp only [Act.put, List.setIfInBounds_toArray, List.set_cons_zero, List.set_cons_succ]))
          (refine TD.val0 (v := ?v5) (by simp only [List.getElem?_toArray, List.getElem?_cons_succ, List.getElem?_cons_zero]; rfl) rfl ?hw5 (fun w1 => ?hy5) ?hn5; (case hw5 => rfl); (case hy5 => (go_simp; (try with_reducible rfl))); (try simp only [Act.put, List.setIfInBounds_toArray, List.set_cons_zero, List.set_cons_succ]))
          (refine TD.load (v := ?v6) (p := ?p6) (Mod.refl _ _) (by simp only [List.getElem?_toArray, List.getElem?_cons_succ, List.getElem?_cons_zero]; rfl) rfl ?hw6 rfl ?hx6 (fun wq hSq => ?hy6) ?hn6; (case hw6 => rfl); (case hx6 => (simp only [Act.eval, Array.getD_eq_getD_getElem?, List.getElem?_toArray, List.getElem?_cons_succ, List.getElem?_cons_zero, Option.getD_some]; (try rfl))); (case hy6 => (have klq := hSq.at kl (fun h => h); go_simp; (try with_reducible rfl))); (try simp only [Act.put, List.setIfInBounds_toArray, List.set_cons_zero, List.set_cons_succ]))
          (refine TD.call (f := ?f7) (args := ?r7) (Mod.refl _ _) (by simp only [List.getElem?_toArray, List.getElem?_cons_succ, List.getElem?_cons_zero]; rfl) rfl ?hw7 (fun w1 => ?hy7) ?hsp7 ?hn7; (case hw7 => rfl); (case hy7 => (go_simp; (first | with_reducible rfl | (constructor <;> with_reducible rfl)))); (case hsp7 => (intro wq hSq; have klq := hSq.at kl (fun h => h); exact (hits_c p b m _ xs.l _ wq (hB.mod0 hSq) (hxr2.mod0 hSq) (by omega)).mono (fun e w' h => ⟨_, h.1, by rw [HH.out, HQ.out], h.2⟩))); rintro _ rfl; (try simp only [Act.put, List.setIfInBounds_toArray, List.set_cons_zero, List.set_cons_succ]))
          (refine TD.val0 (v := ?v8) (by simp only [List.getElem?_toArray, List.getElem?_cons_succ, List.getElem?_cons_zero]; rfl) rfl ?hw8 (fun w1 => ?hy8) ?hn8; (case hw8 => rfl); (case hy8 => (go_simp; (try with_reducible rfl))); (try simp only [Act.put, List.setIfInBounds_toArray, List.set_cons_zero, List.set_cons_succ]))
          (refine TD.val0 (v := ?v9) (by simp only [List.getElem?_toArray, List.getElem?_cons_succ, List.getElem?_cons_zero]; rfl) rfl ?hw9 (fun w1 => ?hy9) ?hn9; (case hw9 => rfl); (case hy9 => (go_simp; (try with_reducible rfl))); (try simp only [Act.put, List.setIfInBounds_toArray, List.set_cons_zero, List.set_cons_succ]))
          (refine TD.val0 (v := ?v10) (by simp only [List.getElem?_toArray, List.getElem?_cons_succ, List.getElem?_cons_zero]; rfl) rfl ?hw10 (fun w1 => ?hy10) ?hn10; (case hw10 => rfl); (case hy10 => (go_simp; (try with_reducible rfl))); (try simp only [Act.put, List.setIfInBounds_toArray, List.set_cons_zero, List.set_cons_succ]))
          (refine TD.val0 (v := ?v11) (by simp only [List.getElem?_toArray, List.getElem?_cons_succ, List.getElem?_cons_zero]; rfl) rfl ?hw11 (fun w1 => ?hy11) ?hn11; (case hw11 => rfl); (case hy11 => (go_simp; (try with_reducible rfl))); (try simp only [Act.put, List.setIfInBounds_toArray, List.set_cons_zero, List.set_cons_succ]))
          (refine TD.val0 (v := ?v12) (by simp only [List.getElem?_toArray, List.getElem?_cons_succ, List.getElem?_cons_zero]; rfl) rfl ?hw12 (fun w1 => ?hy12) ?hn12; (case hw12 => rfl); (case hy12 => (go_simp; (try with_reducible rfl))); (try simp only [Act.put, List.setIfInBounds_toArray, List.set_cons_zero, List.set_cons_succ]))
          (refine TD.load (v := ?v13) (p := ?p13) (Mod.refl _ _) (by simp only [List.getElem?_toArray, List.getElem?_cons_succ, List.getElem?_cons_zero]; rfl) rfl ?hw13 rfl ?hx13 (fun wq hSq => ?hy13) ?hn13; (case hw13 => rfl); (case hx13 => (simp only [Act.eval, Array.getD_eq_getD_getElem?, List.getElem?_toArray, List.getElem?_cons_succ, List.getElem?_cons_zero, Option.getD_some]; (try rfl))); (case hy13 => (have klq := hSq.at kl (fun h => h); go_simp; (try with_reducible rfl))); (try simp only [Act.put, List.setIfInBounds_toArray, List.set_cons_zero, List.set_cons_succ]))
          (refine TD.call (f := ?f14) (args := ?r14) (Mod.refl _ _) (by simp only [List.getElem?_toArray, List.getElem?_cons_succ, List.getElem?_cons_zero]; rfl) rfl ?hw14 (fun w1 => ?hy14) ?hsp14 ?hn14; (case hw14 => rfl); (case hy14 => (go_simp; (first | with_reducible rfl | (constructor <;> with_reducible rfl)))); (case hsp14 => (intro wq hSq; have klq := hSq.at kl (fun h => h); exact (refHits_c aq _ all xs.l _ _ wq (RolesAt.mod0 hq hSq) (hxr2.mod0 hSq) (by omega) (by omega)).mono (fun e w' h => ⟨_, h.1, by rw [HQ.out], h.2⟩))); rintro _ rfl; (try simp only [Act.put, List.setIfInBounds_toArray, List.set_cons_zero, List.set_cons_succ]))
          (refine TD.val0 (v := ?v15) (by simp only [List.getElem?_toArray, List.getElem?_cons_succ, List.getElem?_cons_zero]; rfl) rfl ?hw15 (fun w1 => ?hy15) ?hn15; (case hw15 => rfl); (case hy15 => (go_simp; (try with_reducible rfl))); (try simp only [Act.put, List.setIfInBounds_toArray, List.set_cons_zero, List.set_cons_succ]))
          refine TD.nil (fun w3 hr => ?_)
          have kl := hr.mod.at kl (fun h => h)
          have mm := hm.then0 hr.mod
          have hB3 := hB.mod0 hr.mod
          replace kn := hr.mod.at0 kn
          replace kv := hr.mod.at0 kv
          have hO3 := HO.out.mod0 hr.mod
          have hs3 := hr.mod.size
          go_wp2_with fail
          go_at_call 24
          refine (add_c p b m _ xs.l _ _ hB3 (hxr.mod0 mm) (by omega)).mono ?_
          rintro e w4 ⟨rfl, hB4, m4⟩
          have hs4 := m4.size
          replace kl := m4.at kl (by omega)
          replace kn := m4.at kn (by omega)
          replace kv := m4.at kv (by omega)
          have hO4 := hO3.mod m4 (fun k hk e => by have := (hO3.lt k hk).1; omega)
          have mm4 := mm.thenB m4 (.inl (by omega))
          clear hB hB3 hO3
          go_upto_region 13 with fail
          have Lkl := lt_size kl
          have Lkn := lt_size kn
          have Lkv := lt_size kv
          refine wp_pass (C := fun _ _ v => v = .tuple #[]) (κ := fun i => [0, 0, 1, 0, 0, 0, 0, 1, 2].getD i 0) [0, 1, 2, 3, 4, 5, 6, 7, 8] (by kernel_rfl) (by kernel_rfl) (fun _ _ d _ _ h => by cases d <;> exact h) ?_
          (refine TD.val0 (v := ?v16) (by simp only [List.getElem?_toArray, List.getElem?_cons_succ, List.getElem?_cons_zero]; rfl) rfl ?hw16 (fun w1 => ?hy16) ?hn16; (case hw16 => rfl); (case hy16 => (go_simp; (try with_reducible rfl))); (try simp only [Act.put, List.setIfInBounds_toArray, List.set_cons_zero, List.set_cons_succ]))
          (refine TD.val0 (v := ?v17) (by simp only [List.getElem?_toArray, List.getElem?_cons_succ, List.getElem?_cons_zero]; rfl) rfl ?hw17 (fun w1 => ?hy17) ?hn17; (case hw17 => rfl); (case hy17 => (go_simp; (try with_reducible rfl))); (try simp only [Act.put, List.setIfInBounds_toArray, List.set_cons_zero, List.set_cons_succ]))
          (refine TD.load (v := ?v18) (p := ?p18) (Mod.refl _ _) (by simp only [List.getElem?_toArray, List.getElem?_cons_succ, List.getElem?_cons_zero]; rfl) rfl ?hw18 rfl ?hx18 (fun wq hSq => ?hy18) ?hn18; (case hw18 => rfl); (case hx18 => (simp only [Act.eval, Array.getD_eq_getD_getElem?, List.getElem?_toArray, List.getElem?_cons_succ, List.getElem?_cons_zero, Option.getD_some]; (try rfl))); (case hy18 => (have klq := hSq.at kl (fun h => h); have knq := hSq.at kn (fun h => h); have kvq := hSq.at kv (fun h => h); go_simp; (try with_reducible rfl))); (try simp only [Act.put, List.setIfInBounds_toArray, List.set_cons_zero, List.set_cons_succ]))
          (refine TD.val0 (v := ?v19) (by simp only [List.getElem?_toArray, List.getElem?_cons_succ, List.getElem?_cons_zero]; rfl) rfl ?hw19 (fun w1 => ?hy19) ?hn19; (case hw19 => rfl); (case hy19 => (go_simp; (try with_reducible rfl))); (try simp only [Act.put, List.setIfInBounds_toArray, List.set_cons_zero, List.set_cons_succ]))
          (refine TD.val0 (v := ?v20) (by simp only [List.getElem?_toArray, List.getElem?_cons_succ, List.getElem?_cons_zero]; rfl) rfl ?hw20 (fun w1 => ?hy20) ?hn20; (case hw20 => rfl); (case hy20 => (go_simp; (try with_reducible rfl))); (try simp only [Act.put, List.setIfInBounds_toArray, List.set_cons_zero, List.set_cons_succ]))
          (refine TD.val0 (v := ?v21) (by simp only [List.getElem?_toArray, List.getElem?_cons_succ, List.getElem?_cons_zero]; rfl) rfl ?hw21 (fun w1 => ?hy21) ?hn21; (case hw21 => rfl); (case hy21 => (go_simp; (try with_reducible rfl))); (try simp only [Act.put, List.setIfInBounds_toArray, List.set_cons_zero, List.set_cons_succ]))
          (refine TD.val0 (v := ?v22) (by simp only [List.getElem?_toArray, List.getElem?_cons_succ, List.getElem?_cons_zero]; rfl) rfl ?hw22 (fun w1 => ?hy22) ?hn22; (case hw22 => rfl); (case hy22 => (go_simp; (try with_reducible rfl))); (try simp only [Act.put, List.setIfInBounds_toArray, List.set_cons_zero, List.set_cons_succ]))
          (refine TD.load (v := ?v23) (p := ?p23) (Mod.refl _ _) (by simp only [List.getElem?_toArray, List.getElem?_cons_succ, List.getElem?_cons_zero]; rfl) rfl ?hw23 rfl ?hx23 (fun wq hSq => ?hy23) ?hn23; (case hw23 => rfl); (case hx23 => (simp only [Act.eval, Array.getD_eq_getD_getElem?, List.getElem?_toArray, List.getElem?_cons_succ, List.getElem?_cons_zero, Option.getD_some]; (try rfl))); (case hy23 => (have klq := hSq.at kl (fun h => h); have knq := hSq.at kn (fun h => h); have kvq := hSq.at kv (fun h => h); go_simp; (try with_reducible rfl))); (try simp only [Act.put, List.setIfInBounds_toArray, List.set_cons_zero, List.set_cons_succ]))
          (refine TD.call (f := ?f24) (args := ?r24) (Mod.refl _ _) (by simp only [List.getElem?_toArray, List.getElem?_cons_succ, List.getElem?_cons_zero]; rfl) rfl ?hw24 (fun w1 => ?hy24) ?hsp24 ?hn24; (case hw24 => rfl); (case hy24 => (go_simp; (first | with_reducible rfl | (constructor <;> with_reducible rfl)))); (case hsp24 => (intro wq hSq; have klq := hSq.at kl (fun h => h); have knq := hSq.at kn (fun h => h); have kvq := hSq.at kv (fun h => h); exact (add_nil _ _ _ wq).mono (fun e w' h => ⟨_, h.1, rfl, h.2 ▸ Mod.refl _ _⟩))); rintro _ rfl; (try simp only [Act.put, List.setIfInBounds_toArray, List.set_cons_zero, List.set_cons_succ]))
          refine TD.nil (fun w5 hr => ?_)
          have kl := hr.mod.at kl (fun h => h)
          have kn := hr.mod.at kn (fun h => h)
          have kv := hr.mod.at kv (fun h => h)
          have mm5 := mm4.then0 hr.mod
          have hB5 := hB4.mod0 hr.mod
          have hO5 := hO4.mod0 hr.mod
          have hs5 := hr.mod.size
          clear hB4 hO4
          go_upto_region 14 with fail
          have Lkl := lt_size kl
          have Lkn := lt_size kn
          have Lkv := lt_size kv
          refine wp_pass (C := fun _ _ v => v = .tuple #[]) (κ := fun i => [0, 0, 1, 0, 0, 0, 0, 1, 2].getD i 0) [0, 1, 2, 3, 4, 5, 6, 7, 8] (by kernel_rfl) (by kernel_rfl) (fun _ _ d _ _ h => by cases d <;> exact h) ?_
          (refine TD.val0 (v := ?v25) (by simp only [List.getElem?_toArray, List.getElem?_cons_succ, List.getElem?_cons_zero]; rfl) rfl ?hw25 (fun w1 => ?hy25) ?hn25; (case hw25 => rfl); (case hy25 => (go_simp; (try with_reducible rfl))); (try simp only [Act.put, List.setIfInBounds_toArray, List.set_cons_zero, List.set_cons_succ]))
          (refine TD.val0 (v := ?v26) (by simp only [List.getElem?_toArray, List.getElem?_cons_succ, List.getElem?_cons_zero]; rfl) rfl ?hw26 (fun w1 => ?hy26) ?hn26; (case hw26 => rfl); (case hy26 => (go_simp; (try with_reducible rfl))); (try simp only [Act.put, List.setIfInBounds_toArray, List.set_cons_zero, List.set_cons_succ]))
          (refine TD.load (v := ?v27) (p := ?p27) (Mod.refl _ _) (by simp only [List.getElem?_toArray, List.getElem?_cons_succ, List.getElem?_cons_zero]; rfl) rfl ?hw27 rfl ?hx27 (fun wq hSq => ?hy27) ?hn27; (case hw27 => rfl); (case hx27 => (simp only [Act.eval, Array.getD_eq_getD_getElem?, List.getElem?_toArray, List.getElem?_cons_succ, List.getElem?_cons_zero, Option.getD_some]; (try rfl))); (case hy27 => (have klq := hSq.at kl (fun h => h); have knq := hSq.at kn (fun h => h); have kvq := hSq.at kv (fun h => h); go_simp; (try with_reducible rfl))); (try simp only [Act.put, List.setIfInBounds_toArray, List.set_cons_zero, List.set_cons_succ]))
          (refine TD.val0 (v := ?v28) (by simp only [List.getElem?_toArray, List.getElem?_cons_succ, List.getElem?_cons_zero]; rfl) rfl ?hw28 (fun w1 => ?hy28) ?hn28; (case hw28 => rfl); (case hy28 => (go_simp; (try with_reducible rfl))); (try simp only [Act.put, List.setIfInBounds_toArray, List.set_cons_zero, List.set_cons_succ]))
          (refine TD.val0 (v := ?v29) (by simp only [List.getElem?_toArray, List.getElem?_cons_succ, List.getElem?_cons_zero]; rfl) rfl ?hw29 (fun w1 => ?hy29) ?hn29; (case hw29 => rfl); (case hy29 => (go_simp; (try with_reducible rfl))); (try simp only [Act.put, List.setIfInBounds_toArray, List.set_cons_zero, List.set_cons_succ]))
          (refine TD.val0 (v := ?v30) (by simp only [List.getElem?_toArray, List.getElem?_cons_succ, List.getElem?_cons_zero]; rfl) rfl ?hw30 (fun w1 => ?hy30) ?hn30; (case hw30 => rfl); (case hy30 => (go_simp; (try with_reducible rfl))); (try simp only [Act.put, List.setIfInBounds_toArray, List.set_cons_zero, List.set_cons_succ]))
          (refine TD.val0 (v := ?v31) (by simp only [List.getElem?_toArray, List.getElem?_cons_succ, List.getElem?_cons_zero]; rfl) rfl ?hw31 (fun w1 => ?hy31) ?hn31; (case hw31 => rfl); (case hy31 => (go_simp; (try with_reducible rfl))); (try simp only [Act.put, List.setIfInBounds_toArray, List.set_cons_zero, List.set_cons_succ]))
          (refine TD.load (v := ?v32) (p := ?p32) (Mod.refl _ _) (by simp only [List.getElem?_toArray, List.getElem?_cons_succ, List.getElem?_cons_zero]; rfl) rfl ?hw32 rfl ?hx32 (fun wq hSq => ?hy32) ?hn32; (case hw32 => rfl); (case hx32 => (simp only [Act.eval, Array.getD_eq_getD_getElem?, List.getElem?_toArray, List.getElem?_cons_succ, List.getElem?_cons_zero, Option.getD_some]; (try rfl))); (case hy32 => (have klq := hSq.at kl (fun h => h); have knq := hSq.at kn (fun h => h); have kvq := hSq.at kv (fun h => h); go_simp; (try with_reducible rfl))); (try simp only [Act.put, List.setIfInBounds_toArray, List.set_cons_zero, List.set_cons_succ]))
          (refine TD.call (f := ?f33) (args := ?r33) (Mod.refl _ _) (by simp only [List.getElem?_toArray, List.getElem?_cons_succ, List.getElem?_cons_zero]; rfl) rfl ?hw33 (fun w1 => ?hy33) ?hsp33 ?hn33; (case hw33 => rfl); (case hy33 => (go_simp; (first | with_reducible rfl | (constructor <;> with_reducible rfl)))); (case hsp33 => (intro wq hSq; have klq := hSq.at kl (fun h => h); have knq := hSq.at kn (fun h => h); have kvq := hSq.at kv (fun h => h); exact (add_void p0 _ _ _ wq knq).mono (fun e w' h => ⟨_, h.1, rfl, h.2 ▸ Mod.refl _ _⟩))); rintro _ rfl; (try simp only [Act.put, List.setIfInBounds_toArray, List.set_cons_zero, List.set_cons_succ]))
          refine TD.nil (fun w6 hr => ?_)
          have kl := hr.mod.at kl (fun h => h)
          have kn := hr.mod.at kn (fun h => h)
          have kv := hr.mod.at kv (fun h => h)
          have mm6 := mm5.then0 hr.mod
          have hB6 := hB5.mod0 hr.mod
          have hO6 := hO5.mod0 hr.mod
          have hs6 := hr.mod.size
          have hol := hO6.lt
          clear hB5 hO5
          obtain ⟨v7, w7, hap, hO7, m7, _⟩ := SlOwn.append roleT (c := xs.c) hO6 (hxr.mod0 mm6) (by omega) (by omega) (by omega) 23
          rw [← HS.out] at hO7
          have hs7 := m7.size
          have kl7 := m7.at kl (fun e => by have := (hol _ e).1; omega)
          replace kn := m7.at kn (fun e => by have := (hol _ e).1; omega)
          replace kv := m7.at kv (fun e => by have := (hol _ e).1; omega)
          have hB7 := hB6.out m7 (fun e => by have := (hol _ e).1; omega) (fun e => by have := (hol _ e).1; omega)
          have mm7 := mm6.then m7 (fun j hj e => by have := (hol _ e).1; omega)
          obtain ⟨aq7, cq7, rfl, hq7, haq7, _⟩ := hO7.at roleT
          have hal7 : all'.length ≤ 800 := by rw [HS.out, List.length_append]; omega
          have HI7 : Hid (BInv (addB m xs.l) all') := Lib.hid (by rw [HS.out]; exact HI.out.addB xs.l)
          have HH7 := Lib.hid (HI7.out.hits)
          have HO7 := Lib.hid hO7
          clear hO7 hO6 hB6
          go_upto_region 15 with fail
          refine region_seq 8 rfl ?_
          simp only [List.range, List.range.loop]
          (refine sq_val (v := ?v34) (by simp only [List.getElem?_toArray, List.getElem?_cons_succ, List.getElem?_cons_zero]; rfl) ?hw34 ?hy34 ?hn34; (case hw34 => rfl); (case hy34 => (go_simp; (try with_reducible rfl))); (try simp only [Act.put, List.setIfInBounds_toArray, List.set_cons_zero, List.set_cons_succ]))
          (refine sq_val (v := ?v35) (by simp only [List.getElem?_toArray, List.getElem?_cons_succ, List.getElem?_cons_zero]; rfl) ?hw35 ?hy35 ?hn35; (case hw35 => rfl); (case hy35 => (go_simp; (try with_reducible rfl))); (try simp only [Act.put, List.setIfInBounds_toArray, List.set_cons_zero, List.set_cons_succ]))
          (refine sq_val (v := ?v36) (by simp only [List.getElem?_toArray, List.getElem?_cons_succ, List.getElem?_cons_zero]; rfl) ?hw36 ?hy36 ?hn36; (case hw36 => rfl); (case hy36 => (go_simp; (try with_reducible rfl))); (try simp only [Act.put, List.setIfInBounds_toArray, List.set_cons_zero, List.set_cons_succ]))
          (refine sq_val (v := ?v37) (by simp only [List.getElem?_toArray, List.getElem?_cons_succ, List.getElem?_cons_zero]; rfl) ?hw37 ?hy37 ?hn37; (case hw37 => rfl); (case hy37 => (go_simp; (try with_reducible rfl))); (try simp only [Act.put, List.setIfInBounds_toArray, List.set_cons_zero, List.set_cons_succ]))
          (refine sq_val (v := ?v38) (by simp only [List.getElem?_toArray, List.getElem?_cons_succ, List.getElem?_cons_zero]; rfl) ?hw38 ?hy38 ?hn38; (case hw38 => rfl); (case hy38 => (go_simp; (try with_reducible rfl))); (try simp only [Act.put, List.setIfInBounds_toArray, List.set_cons_zero, List.set_cons_succ]))
          (refine sq_load (v := ?v39) (p := ?p39) (by simp only [List.getElem?_toArray, List.getElem?_cons_succ, List.getElem?_cons_zero]; rfl) ?hw39 rfl ?hx39 ?hy39 ?hn39; (case hw39 => rfl); (case hx39 => (simp only [Act.eval, Array.getD_eq_getD_getElem?, List.getElem?_toArray, List.getElem?_cons_succ, List.getElem?_cons_zero, Option.getD_some]; (try rfl))); (case hy39 => (go_simp; (try with_reducible rfl))); (try simp only [Act.put, List.setIfInBounds_toArray, List.set_cons_zero, List.set_cons_succ]))
          (refine sq_append (by simp only [List.getElem?_toArray, List.getElem?_cons_succ, List.getElem?_cons_zero]; rfl) ?hw40 rfl ?hx40 ?hz40 hap ?hn40; (case hw40 => rfl); (case hx40 => (simp only [Act.eval, Array.getD_eq_getD_getElem?, List.getElem?_toArray, List.getElem?_cons_succ, List.getElem?_cons_zero, Option.getD_some]; (try rfl))); (case hz40 => (simp only [Act.eval, Array.getD_eq_getD_getElem?, List.getElem?_toArray, List.getElem?_cons_succ, List.getElem?_cons_zero, Option.getD_some]; (try rfl))); (try simp only [Act.put, List.setIfInBounds_toArray, List.set_cons_zero, List.set_cons_succ]))
          (refine sq_val (v := ?v41) (by simp only [List.getElem?_toArray, List.getElem?_cons_succ, List.getElem?_cons_zero]; rfl) ?hw41 ?hy41 ?hn41; (case hw41 => rfl); (case hy41 => (go_simp; (try with_reducible rfl))); (try simp only [Act.put, List.setIfInBounds_toArray, List.set_cons_zero, List.set_cons_succ]))
          refine sq_nil ?_
          clear hap hol kl
          generalize hcv : confl all' ask = q1 at *
          have HQ7 := Lib.hid hcv
          clear hcv
          go_wp2_with fail
          go_at_call 22
          refine (hits_c p b _ _ ask _ _ hB7 (hask.mod0 mm7) (by omega)).mono ?_
          rintro e w8 ⟨rfl, m8⟩
          rw [HH7.out ask, HQ7.out]
          go_wp2_with fail
          go_at_call 23
          refine (refHits_c _ _ all' ask _ _ _ (RolesAt.mod0 hq7 m8) (hask.mod0 (mm7.then0 m8)) (by omega) (by omega)).mono ?_
          rintro e w9 ⟨rfl, m9⟩
          rw [HQ7.out]
          replace m9 := m8.trans m9
          replace kv := m9.at0 kv
          replace kn := m9.at0 kn
          have hs9 := m9.size
          cases q1
          all_goals
            go_wp2_with fail
            go_at_call 22
            refine (hits_nil _ _ _ _).mono ?_
            rintro e w10 ⟨rfl, rfl⟩
            go_wp2_with fail
            go_at_call 22
            refine (hits_void p0 _ all' _ _ kn (RolesAt.mod0 hq7 m9) (by omega)).mono ?_
            rintro e w10 ⟨rfl, m10⟩
            have m11 := m9.trans m10
            have hs10 := m10.size
            go_wp2_with fail
            go_roundw
            case rel => exact ⟨i + 1, addB m xs.l, by omega, by go_num, hB7.mod0 m11, by rw [HGA.out]; exact HI7, by rw [HGA.out]; exact HO7.out.mod0 m11, m10.at0 kn, m10.at0 kv, by omega, mm7.then0 m11⟩
            case measure => simp [intOf]; omega
        · go_wp2_with (go_at_call 10; refine (lives_c _).mono ?_; rintro e w' ⟨rfl, hm2⟩)
          go_ret
          exact ⟨rfl, hm.trans hm2⟩
end Go.Proofs.Ytleenmldlbccmaa
