/- Blocks: Record, behind the end. -/
import Derived.Test.YtofpnmoeimjnnaaBv4
import Derived.Test.YtofpnmoeimjnnaaBv5
namespace Go.Proofs.Ytofpnmoeimjnnaa
open Go.RowKit
open Go.ChangeMaps (setBlock)
set_option linter.unusedSimpArgs false
set_option linter.unusedVariables false
attribute [local go_sem ↓] wlKey ldKey stKey wlAcct ldAcct stAcct wlHold ldHold stHold wlHash ldHash stHash wlSig ldSig stSig wlLim ldLim stLim wlRdy ldRdy stRdy wlOut ldOut stOut wlTd ldTd stTd wlTx ldTx stTx eqKey1
attribute [local go_sem] eqMap neMap av_size av_all av_one hd_size hd_key hd_acct hd_all hd_one zKey_size zAcct_size zHold_size zHash_size zSg_size zLim_size zRdy_size zOut_size zTried_size zTx_size cell_blk frozen_blk kc_ext one_int one_bool one_ptr one_slice one_map kc_one kc_one0 kc_size sgc_size sgc_ext sgc_one0 sgc_one' rdr_size rdr_all rdr_one rdr_tx rdr_rec rdr0 rdr1 rdr41 rdr0' rdr1' rdr41' ocr_size ocr_all ocr_one ocr2 ocr3 ocr4 ocr5 ocr2' ocr3' ocr4' ocr5' tdr_size tdr_all tdr_one tdr_r tdr_o tdr_tx tdr_rec tdr0 tdr1 tdr41 tdr50 tdr51 tdr52 tdr53 tdr0' tdr1' tdr41' tdr50' tdr51' tdr52' tdr53' txr_size txr_all txr_one txr0 txr38 txr39 txr0' txr38' txr39' Value.cells

/-- The verdict of a block that has ended. -/
theorem verdictE_c {b s q n t : Nat} {ea : Option Addr} {en ec : Nat} {oa : Option Addr} {on oc : Nat} {f : UInt64} (x : TdR) (w : World) (kb : w.heap[b]? = some (.cells (blkC s q n t true ea en ec oa on oc f) 80 (0, 0))) :
    Calls Try.prog 34 #[ptrV b, .agg (tdr x)] w fun e w' => e = .returned (.int .i64 23) ∧ Mod (fun _ => False) w w' := by
  refine (verdict_g (b := b) (x := x) (w := w) (v1 := 23) (v2 := 0) (R := fun _ _ _ => True) (fun p w1 hp hm => (step1_c (e := true) w1 (hm.at0 kb) hp).mono ?_) (fun h => by cases h) (fun h => by cases h)).mono ?_
  · rintro e w' ⟨rfl, rfl⟩
    exact ⟨rfl, Mod.refl _ _⟩
  · rintro e w' (⟨_, rfl, hm⟩ | ⟨h, _⟩ | ⟨h, _⟩)
    · exact ⟨rfl, hm⟩
    · cases h
    · cases h
/-- An element of a list of transactions that ran. -/
theorem td_at {w : World} {a : Option Addr} {l : List TdR} (h : SlAt tdr 54 w a l) {i : Nat} {x : TdR} (hx : l[i]? = some x) : ∃ g o C U fr, a = some ⟨g, o, none⟩ ∧ w.heap[g]? = some (.cells C U fr) ∧ C.extract (o + i * 54) (o + i * 54 + 54) = tdr x ∧ o + i * 54 + 54 ≤ C.size := h.block hx
theorem errC_get {l : List Nat} {i v : Nat} (h : l[i]? = some v) : (errC l)[i]? = some (.int .i64 (v : Int)) := by
  simp [errC, h]
set_option maxRecDepth 20000 in
set_option maxHeartbeats 3200000 in
theorem recordE_c {b s q n t : Nat} {ea : Option Addr} {en ec : Nat} {oa : Option Addr} {on oc : Nat} {f : UInt64} (a : Option Addr) (l : List TdR) (c : Nat) (w : World) (kb : w.heap[b]? = some (.cells (blkC s q n t true ea en ec oa on oc f) 80 (0, 0))) (hl : SlAt tdr 54 w a l) (hn : l.length ≤ 100000) :
    Calls Try.prog 8 #[ptrV b, .slice a l.length c] w fun e w' => ∃ g, e = .returned (.slice (some ⟨g, 0, none⟩) l.length l.length) ∧ w.heap.size ≤ g ∧ SlAt ern 1 w' (some ⟨g, 0, none⟩) (List.replicate l.length 23) ∧ Mod (fun _ => False) w w' := by
  have hmk := mkErr l.length hn
  have HL := Lib.hid hl
  have KB := Lib.hid kb
  have hbl := lt_size kb
  clear hl kb
  generalize hll : l.length = ll at *
  have HLL := Lib.hid hll
  clear hll
  go_enter Try.func8, Try.ntmps8
  go_upto_region 1 with fail
  refine wp_pass0 (C := fun _ _ _ => False) (κ := fun i => [0, 0, 3, 0].getD i 0) [0, 1, 2, 3] (by kernel_rfl) (by kernel_rfl) (fun _ _ d _ _ h => by cases d <;> first | exact h | exact absurd h (hP _ _ _)) ?_
  (refine TD.val0 (v := ?v1) (by simp only [zA, zB, zC]; rfl) rfl ?hw1 (fun w1 => ?hy1) ?hn1; (case hw1 => rfl); (case hy1 => (go_simp; (try with_reducible rfl))); (try simp only [Act.put, zF, zG, zH]))
  (refine TD.val0 (v := ?v2) (by simp only [zA, zB, zC]; rfl) rfl ?hw2 (fun w1 => ?hy2) ?hn2; (case hw2 => rfl); (case hy2 => (go_simp; (try with_reducible rfl))); (try simp only [Act.put, zF, zG, zH]))
  (refine TD.mks (by simp only [zA, zB, zC]; rfl) rfl ?hw3 rfl rfl ?hx3 ?hz3 hmk (fun p13 hp13 => ?hn3); (case hw3 => rfl); (case hx3 => (simp only [Act.eval, zD, zA, zB, zC, zE]; (try rfl))); (case hz3 => (simp only [Act.eval, zD, zA, zB, zC, zE]; (try rfl))); (try simp only [Act.put, zF, zG, zH]))
  (refine TD.val0 (v := ?v4) (by simp only [zA, zB, zC]; rfl) rfl ?hw4 (fun w1 => ?hy4) ?hn4; (case hw4 => rfl); (case hy4 => (go_simp; (try with_reducible rfl))); (try simp only [Act.put, zF, zG, zH]))
  refine TD.nil (fun w1 hr => ?_)
  have kp13 := hr.box p13 _ (by first | exact Bx.set_same _ _ _ | (simp only [Bx.set_same]; rfl)); dsimp only [Value.cells] at kp13; obtain ⟨gp13, kp13⟩ := kp13
  clear hmk
  have m1 := hr.mod
  clear hr
  have hne : b ≠ p13 := by omega
  go_wp2_with fail
  go_at_call 33
  refine (bthere_c _ (m1.at0 KB.out)).mono ?_
  rintro e w2 ⟨rfl, rfl⟩
  go_wp2_with fail
  go_loopw [7, 8, 29] (fun s7 s8 s29 ws => ∃ i : Nat, i ≤ ll ∧ s7 = .slice none 0 0 ∧ s8 = .int .u64 0 ∧ s29 = .int .i64 (i : Int) ∧ ws.heap[p13]? = some (.cells (errC (List.replicate i 23 ++ List.replicate (ll - i) 0)) 62 (0, 0)) ∧ Mod (fun i => i = p13) w1 ws) (fun _ _ s29 _ => ll - (intOf s29).toNat)
  case atStart => exact ⟨0, by omega, rfl, rfl, rfl, by simpa using kp13, Mod.refl _ _⟩
  case round =>
    obtain ⟨i, hi, rfl, rfl, rfl, kq, hm⟩ := hrel
    clear kp13
    have mm := m1.thenB hm (.inl gp13)
    by_cases hlt : i < ll
    · obtain ⟨x, hx⟩ : ∃ x, l[i]? = some x := ⟨_, List.getElem?_eq_getElem (by rw [HLL.out]; exact hlt)⟩
      obtain ⟨g, o, C, U, fr, rfl, kl, he, hle⟩ := td_at (HL.out.mod0 mm) hx
      have HX := Lib.hid hx
      clear hx
      have hs : (errC (List.replicate i 23 ++ List.replicate (ll - i) 0)).size = ll := by rw [errC_size]; simp; omega
      have hset : (errC (List.replicate i 23 ++ List.replicate (ll - i) 0)).setIfInBounds i (.int .i64 23) = errC (List.replicate (i + 1) 23 ++ List.replicate (ll - (i + 1)) 0) := by
        refine (errC_set _ i 23).trans ?_
        congr 1
        obtain ⟨d, rfl⟩ : ∃ d, ll = i + 1 + d := ⟨ll - (i + 1), by omega⟩
        rw [show i + 1 + d - i = d + 1 by omega, show i + 1 + d - (i + 1) = d by omega, List.set_append_right _ _ (by simp), List.length_replicate, Nat.sub_self, List.replicate_succ, zG, List.replicate_succ' (n := i), List.append_assoc]
        rfl
      have hget : (errC (List.replicate (i + 1) 23 ++ List.replicate (ll - (i + 1)) 0))[i]? = some (.int .i64 23) := errC_get (by rw [List.getElem?_append_left (by simp), List.getElem?_replicate, if_pos (by omega)])
      have hs2 : (errC (List.replicate (i + 1) 23 ++ List.replicate (ll - (i + 1)) 0)).size = ll := by rw [errC_size]; simp; omega
      have HE2 : ∃ E2, E2 = errC (List.replicate (i + 1) 23 ++ List.replicate (ll - (i + 1)) 0) := ⟨_, rfl⟩
      obtain ⟨E2, hE2⟩ := HE2
      obtain ⟨E, hE⟩ : ∃ E, E = errC (List.replicate i 23 ++ List.replicate (ll - i) 0) := ⟨_, rfl⟩
      rw [← hE2] at hset hget hs2
      rw [← hE] at hs hset kq
      have HEE := Lib.hid (And.intro hE hE2)
      clear hE hE2
      have HS := Lib.hid hset
      clear hset
      go_upto_region 13 with fail
      have Lkl := lt_size kl
      have Lkq := lt_size kq
      refine wp_pass0 (C := fun _ _ _ => False) (κ := fun i => [0, 0, 1, 3, 0, 4].getD i 0) [0, 1, 2, 3, 4, 5] (by kernel_rfl) (by kernel_rfl) (fun _ _ d _ _ h => by cases d <;> first | exact h | exact absurd h (hP _ _ _)) ?_
      (refine TD.val0 (v := ?v5) (by simp only [zA, zB, zC]; rfl) rfl ?hw5 (fun w1 => ?hy5) ?hn5; (case hw5 => rfl); (case hy5 => (go_simp; (try with_reducible rfl))); (try simp only [Act.put, zF, zG, zH]))
      (refine TD.val0 (v := ?v6) (by simp only [zA, zB, zC]; rfl) rfl ?hw6 (fun w1 => ?hy6) ?hn6; (case hw6 => rfl); (case hy6 => (go_simp; (try with_reducible rfl))); (try simp only [Act.put, zF, zG, zH]))
      (refine TD.load (v := ?v7) (p := ?p7) (Mod.refl _ _) (by simp only [zA, zB, zC]; rfl) rfl ?hw7 rfl ?hx7 (fun wq hSq => ?hy7) ?hn7; (case hw7 => rfl); (case hx7 => (simp only [Act.eval, zD, zA, zB, zC, zE]; (try rfl))); (case hy7 => (have klq := hSq.at kl (fun h => h); have kqq := hSq.at kq (fun h => h); go_simp; (try with_reducible rfl))); (try simp only [Act.put, zF, zG, zH]))
      (refine TD.allocB (by simp only [zA, zB, zC]; rfl) rfl ?hw8 rfl rfl alTd (fun p10 hp10 => ?hn8); (case hw8 => rfl); (try simp only [Act.put, zF, zG, zH]))
      (refine TD.val0 (v := ?v9) (by simp only [zA, zB, zC]; rfl) rfl ?hw9 (fun w1 => ?hy9) ?hn9; (case hw9 => rfl); (case hy9 => (go_simp; (try with_reducible rfl))); (try simp only [Act.put, zF, zG, zH]))
      (refine TD.storeB (d := ?d10) (T := ?T10) (y := ?y10) (p := ?p10) (b := ?b10) (v := ?v10) (by simp only [zA, zB, zC]; rfl) rfl ?hw10 ?hd10 ?hop10 ?hev10 ?hx10 ?hb10 ?htag10 (fun w1 hb1 => ?hy10) ?hn10; (case hw10 => rfl); (case hd10 => rfl); (case hop10 => rfl); (case hev10 => (simp only [Act.eval, zD, zA, zB, zC, zE]; (try rfl))); (case hx10 => (simp only [Act.eval, zD, zA, zB, zC, zE]; (try rfl))); (case hb10 => first | exact Bx.set_same _ _ _ | (simp only [Bx.set_same]; rfl)); (case hy10 => (go_simp; (try first | with_reducible rfl | (rw [setCell_blk hb1]; rfl)))); (try simp only [Act.put, zF, zG, zH]))
      refine TD.nil (fun w3 hr => ?_)
      have kl := hr.mod.at kl (fun h => h)
      have kq := hr.mod.at kq (fun h => h)
      have kp10 := hr.box p10 _ (by first | exact Bx.set_same _ _ _ | (simp only [Bx.set_same]; rfl)); dsimp only [Value.cells] at kp10; obtain ⟨gp10, kp10⟩ := kp10
      have hm3 := hm.then0 hr.mod
      clear hr
      go_wp2_with fail
      go_at_call 34
      refine (verdictE_c x _ ((m1.thenB hm3 (.inl gp13)).at0 KB.out)).mono ?_
      rintro e w4 ⟨rfl, m4⟩
      have hm4 := hm3.then0 m4
      have kq := m4.at0 kq
      clear kp10 kl he m4
      go_upto_region 15 with fail
      rw [setCell_blk kq, HS.out]
      obtain ⟨w5, kq5, m5, e5⟩ : ∃ w5, w5.heap[p13]? = some (.cells E2 62 (0, 0)) ∧ Mod (fun i => i = p13) w4 w5 ∧ w5 = setBlock w4 p13 (.cells E2 62 (0, 0)) := ⟨_, heap_setBlock _ _ (lt_size kq), mod_set _ _ _, rfl⟩
      rw [← e5]
      have hm5 := hm4.trans m5
      clear e5 m5 kq hs hs2
      have Lkq5 := lt_size kq5
      refine wp_pass0 (C := fun _ _ _ => False) (κ := fun i => [0, 0, 0, 1, 0].getD i 0) [0, 1, 2, 3, 4] (by kernel_rfl) (by kernel_rfl) (fun _ _ d _ _ h => by cases d <;> first | exact h | exact absurd h (hP _ _ _)) ?_
      (refine TD.val0 (v := ?v11) (by simp only [zA, zB, zC]; rfl) rfl ?hw11 (fun w1 => ?hy11) ?hn11; (case hw11 => rfl); (case hy11 => (go_simp; (try with_reducible rfl))); (try simp only [Act.put, zF, zG, zH]))
      (refine TD.val0 (v := ?v12) (by simp only [zA, zB, zC]; rfl) rfl ?hw12 (fun w1 => ?hy12) ?hn12; (case hw12 => rfl); (case hy12 => (go_simp; (try with_reducible rfl))); (try simp only [Act.put, zF, zG, zH]))
      (refine TD.val0 (v := ?v13) (by simp only [zA, zB, zC]; rfl) rfl ?hw13 (fun w1 => ?hy13) ?hn13; (case hw13 => rfl); (case hy13 => (go_simp; (try with_reducible rfl))); (try simp only [Act.put, zF, zG, zH]))
      (refine TD.load (v := ?v14) (p := ?p14) (Mod.refl _ _) (by simp only [zA, zB, zC]; rfl) rfl ?hw14 rfl ?hx14 (fun wq hSq => ?hy14) ?hn14; (case hw14 => rfl); (case hx14 => (simp only [Act.eval, zD, zA, zB, zC, zE]; (try rfl))); (case hy14 => (have kq5q := hSq.at kq5 (fun h => h); go_simp; (try with_reducible rfl))); (try simp only [Act.put, zF, zG, zH]))
      (refine TD.val0 (v := ?v15) (by simp only [zA, zB, zC]; rfl) rfl ?hw15 (fun w1 => ?hy15) ?hn15; (case hw15 => rfl); (case hy15 => (go_simp; (try with_reducible rfl))); (try simp only [Act.put, zF, zG, zH]))
      refine TD.nil (fun w6 hr => ?_)
      have kq5 := hr.mod.at kq5 (fun h => h)
      have hm5 := hm5.then0 hr.mod
      clear hr hget
      go_wp2_with fail
      go_roundw
      case rel => exact ⟨i + 1, by omega, rfl, rfl, by go_num, by rw [← HEE.out.2]; exact kq5, hm5⟩
      case measure => simp [intOf]; omega
    · obtain rfl : i = ll := by omega
      go_wp2_with fail
      go_ret
      exact ⟨_, rfl, gp13, by have := errC_at kq; simpa using this, mm⟩
end Go.Proofs.Ytofpnmoeimjnnaa
