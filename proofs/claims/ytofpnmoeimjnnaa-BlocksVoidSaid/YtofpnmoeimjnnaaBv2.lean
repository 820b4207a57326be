/- Blocks that are not there, or that no call made. -/
import Derived.Test.YtofpnmoeimjnnaaBv
import Derived.Test.YtofpnmoeimjnnaaMk
namespace Go.Proofs.Ytofpnmoeimjnnaa
open Go.RowKit
open Go.ChangeMaps (setBlock)
set_option linter.unusedSimpArgs false
set_option linter.unusedVariables false
attribute [local go_sem ↓] wlKey ldKey stKey wlAcct ldAcct stAcct wlHold ldHold stHold wlHash ldHash stHash wlSig ldSig stSig wlLim ldLim stLim wlRdy ldRdy stRdy wlOut ldOut stOut wlTd ldTd stTd wlTx ldTx stTx eqKey1
attribute [local go_sem] eqMap neMap av_size av_all av_one hd_size hd_key hd_acct hd_all hd_one zKey_size zAcct_size zHold_size zHash_size zSg_size zLim_size zRdy_size zOut_size zTried_size zTx_size cell_blk frozen_blk kc_ext one_int one_bool one_ptr one_slice one_map kc_one kc_one0 kc_size sgc_size sgc_ext sgc_one0 sgc_one' rdr_size rdr_all rdr_one rdr_tx rdr_rec rdr0 rdr1 rdr41 rdr0' rdr1' rdr41' ocr_size ocr_all ocr_one ocr2 ocr3 ocr4 ocr5 ocr2' ocr3' ocr4' ocr5' tdr_size tdr_all tdr_one tdr_r tdr_o tdr_tx tdr_rec tdr0 tdr1 tdr41 tdr50 tdr51 tdr52 tdr53 tdr0' tdr1' tdr41' tdr50' tdr51' tdr52' tdr53' txr_size txr_all txr_one txr0 txr38 txr39 txr0' txr38' txr39' Value.cells

def blkC (s q n t : Nat) (e : Bool) (ea : Option Addr) (en ec : Nat) (oa : Option Addr) (on oc : Nat) (f : UInt64) : Array Value := #[ptrV s, ptrV q, ptrV n, ptrV t, .bool e, .slice ea en ec, .slice oa on oc, u64v f]
/-- Blocks that are not there, or that no call made. -/
def NoBk (w : World) (v : Value) : Prop := v = .pointer none ∨ ∃ p, v = ptrV p ∧ w.heap[p]? = some (.cells #[.pointer none, .pointer none, .pointer none, .pointer none, .bool false, .slice none 0 0, .slice none 0 0, .int .u64 0] 80 (0, 0))
theorem NoBk.mod0 {w w' : World} {v : Value} (h : NoBk w v) (hm : Mod (fun _ => False) w w') : NoBk w' v := by
  rcases h with h | ⟨p, h1, h2⟩
  · exact .inl h
  · exact .inr ⟨p, h1, hm.at0 h2⟩
theorem bthere_nil (w : World) : Calls Try.prog 33 #[.pointer none] w fun e w' => e = .returned (.bool false) ∧ w = w' := by
  go_enter Try.func33, Try.ntmps33
  go_wp2
  go_ret
  exact ⟨rfl, rfl⟩
theorem bthere_zero (p : Nat) (w : World) (kp : w.heap[p]? = some (.cells #[.pointer none, .pointer none, .pointer none, .pointer none, .bool false, .slice none 0 0, .slice none 0 0, .int .u64 0] 80 (0, 0))) : Calls Try.prog 33 #[ptrV p] w fun e w' => e = .returned (.bool false) ∧ w = w' := by
  go_enter Try.func33, Try.ntmps33
  go_wp2
  go_ret
  exact ⟨rfl, rfl⟩
theorem bthere_c {p s q n t : Nat} {e : Bool} {ea : Option Addr} {en ec : Nat} {oa : Option Addr} {on oc : Nat} {f : UInt64} (w : World) (kp : w.heap[p]? = some (.cells (blkC s q n t e ea en ec oa on oc f) 80 (0, 0))) : Calls Try.prog 33 #[ptrV p] w fun e w' => e = .returned (.bool true) ∧ w = w' := by
  unfold blkC at kp
  go_enter Try.func33, Try.ntmps33
  go_wp2
  go_ret
  exact ⟨rfl, rfl⟩
theorem bthereN (v : Value) (w : World) (h : NoBk w v) : Calls Try.prog 33 #[v] w fun e w' => e = .returned (.bool false) ∧ w = w' := by
  rcases h with rfl | ⟨p, rfl, h2⟩
  · exact bthere_nil w
  · exact bthere_zero p w h2
theorem endN (v : Value)  (w : World) (h : NoBk w v) : Calls Try.prog 16 #[v] w fun e w' => e = .returned (.int .i64 2) ∧ Mod (fun _ => False) w w' := by
  have H := Lib.hid h
  clear h
  go_enter Try.func16, Try.ntmps16
  have m1 := Mod.refl (fun _ => False) w
  go_wp2_with fail
  go_at_call 33
  refine (bthereN v _ (H.out.mod0 m1)).mono ?_
  rintro e w2 ⟨rfl, rfl⟩
  go_wp2_with fail
  go_ret
  exact ⟨rfl, m1⟩
theorem endedN (v : Value)  (w : World) (h : NoBk w v) : Calls Try.prog 17 #[v] w fun e w' => e = .returned (.bool true) ∧ Mod (fun _ => False) w w' := by
  have H := Lib.hid h
  clear h
  go_enter Try.func17, Try.ntmps17
  have m1 := Mod.refl (fun _ => False) w
  go_wp2_with fail
  go_at_call 33
  refine (bthereN v _ (H.out.mod0 m1)).mono ?_
  rintro e w2 ⟨rfl, rfl⟩
  go_wp2_with fail
  go_ret
  exact ⟨rfl, m1⟩
theorem entriesN (v : Value)  (w : World) (h : NoBk w v) : Calls Try.prog 18 #[v] w fun e w' => e = .returned (.slice none 0 0) ∧ Mod (fun _ => False) w w' := by
  have H := Lib.hid h
  clear h
  go_enter Try.func18, Try.ntmps18
  have m1 := Mod.refl (fun _ => False) w
  go_wp2_with fail
  go_at_call 33
  refine (bthereN v _ (H.out.mod0 m1)).mono ?_
  rintro e w2 ⟨rfl, rfl⟩
  go_wp2_with fail
  go_ret
  exact ⟨rfl, m1⟩
theorem outsN (v : Value)  (w : World) (h : NoBk w v) : Calls Try.prog 19 #[v] w fun e w' => e = .returned (.slice none 0 0) ∧ Mod (fun _ => False) w w' := by
  have H := Lib.hid h
  clear h
  go_enter Try.func19, Try.ntmps19
  have m1 := Mod.refl (fun _ => False) w
  go_wp2_with fail
  go_at_call 33
  refine (bthereN v _ (H.out.mod0 m1)).mono ?_
  rintro e w2 ⟨rfl, rfl⟩
  go_wp2_with fail
  go_ret
  exact ⟨rfl, m1⟩
theorem feesN (v : Value)  (w : World) (h : NoBk w v) : Calls Try.prog 20 #[v] w fun e w' => e = .returned (.int .u64 0) ∧ Mod (fun _ => False) w w' := by
  have H := Lib.hid h
  clear h
  go_enter Try.func20, Try.ntmps20
  have m1 := Mod.refl (fun _ => False) w
  go_wp2_with fail
  go_at_call 33
  refine (bthereN v _ (H.out.mod0 m1)).mono ?_
  rintro e w2 ⟨rfl, rfl⟩
  go_wp2_with fail
  go_ret
  exact ⟨rfl, m1⟩
theorem costN (v : Value)  (w : World) (h : NoBk w v) : Calls Try.prog 11 #[v] w fun e w' => e = .returned (.int .u64 0) ∧ Mod (fun _ => False) w w' := by
  have H := Lib.hid h
  clear h
  go_enter Try.func11, Try.ntmps11
  have m1 := Mod.refl (fun _ => False) w
  go_wp2_with fail
  go_at_call 33
  refine (bthereN v _ (H.out.mod0 m1)).mono ?_
  rintro e w2 ⟨rfl, rfl⟩
  go_wp2_with fail
  go_ret
  exact ⟨rfl, m1⟩
theorem commitN (v : Value) (o : OcR) (w : World) (h : NoBk w v) : Calls Try.prog 15 #[v, .agg (ocr o)] w fun e w' => e = .returned (.int .i64 2) ∧ Mod (fun _ => False) w w' := by
  have H := Lib.hid h
  clear h
  go_enter Try.func15, Try.ntmps15
  go_upto_region 0 with fail
  refine wp_pass0 (C := fun _ _ _ => False) (κ := fun i => [3, 0].getD i 0) [0, 1] (by kernel_rfl) (by kernel_rfl) (fun _ _ d _ _ h => by cases d <;> first | exact h | exact absurd h (hP _ _ _)) ?_
  (refine TD.box (v := ?v1) (by simp only [zA, zB, zC]; rfl) rfl ?hw1 rfl rfl ?hx1 (fun p3 hp3 => ?hn1); (case hw1 => rfl); (case hx1 => (simp only [Act.eval, zD, zA, zB, zC, zE]; (try rfl))); (try simp only [Act.put, zF, zG, zH]))
  (refine TD.val0 (v := ?v2) (by simp only [zA, zB, zC]; rfl) rfl ?hw2 (fun w1 => ?hy2) ?hn2; (case hw2 => rfl); (case hy2 => (go_simp; (try with_reducible rfl))); (try simp only [Act.put, zF, zG, zH]))
  refine TD.nil (fun w1 hr => ?_)
  have kp3 := hr.box p3 _ (by first | exact Bx.set_same _ _ _ | (simp only [Bx.set_same]; rfl)); dsimp only [Value.cells] at kp3; obtain ⟨gp3, kp3⟩ := kp3
  have m1 := hr.mod
  go_wp2_with fail
  go_at_call 33
  refine (bthereN v _ (H.out.mod0 m1)).mono ?_
  rintro e w2 ⟨rfl, rfl⟩
  go_wp2_with fail
  go_ret
  exact ⟨rfl, m1⟩
theorem loadN (v : Value) (o : RdR) (w : World) (h : NoBk w v) : Calls Try.prog 13 #[v, .agg (rdr o)] w fun e w' => e = .returned (.tuple #[.slice none 0 0, .int .i64 2]) ∧ Mod (fun _ => False) w w' := by
  have H := Lib.hid h
  clear h
  go_enter Try.func13, Try.ntmps13
  go_upto_region 0 with fail
  refine wp_pass0 (C := fun _ _ _ => False) (κ := fun i => [3, 0, 0].getD i 0) [0, 1, 2] (by kernel_rfl) (by kernel_rfl) (fun _ _ d _ _ h => by cases d <;> first | exact h | exact absurd h (hP _ _ _)) ?_
  (refine TD.box (v := ?v3) (by simp only [zA, zB, zC]; rfl) rfl ?hw3 rfl rfl ?hx3 (fun p3 hp3 => ?hn3); (case hw3 => rfl); (case hx3 => (simp only [Act.eval, zD, zA, zB, zC, zE]; (try rfl))); (try simp only [Act.put, zF, zG, zH]))
  (refine TD.val0 (v := ?v4) (by simp only [zA, zB, zC]; rfl) rfl ?hw4 (fun w1 => ?hy4) ?hn4; (case hw4 => rfl); (case hy4 => (go_simp; (try with_reducible rfl))); (try simp only [Act.put, zF, zG, zH]))
  (refine TD.val0 (v := ?v5) (by simp only [zA, zB, zC]; rfl) rfl ?hw5 (fun w1 => ?hy5) ?hn5; (case hw5 => rfl); (case hy5 => (go_simp; (try with_reducible rfl))); (try simp only [Act.put, zF, zG, zH]))
  refine TD.nil (fun w1 hr => ?_)
  have kp3 := hr.box p3 _ (by first | exact Bx.set_same _ _ _ | (simp only [Bx.set_same]; rfl)); dsimp only [Value.cells] at kp3; obtain ⟨gp3, kp3⟩ := kp3
  have m1 := hr.mod
  go_wp2_with fail
  go_at_call 33
  refine (bthereN v _ (H.out.mod0 m1)).mono ?_
  rintro e w2 ⟨rfl, rfl⟩
  go_wp2_with fail
  go_ret2
  exact ⟨rfl, m1⟩
/-- Errors: a list of them. -/
def ern (v : Nat) : Array Value := #[.int .i64 (v : Int)]
def errC (l : List Nat) : Array Value := (l.map fun v : Nat => Value.int .i64 (v : Int)).toArray
theorem errC_size (l : List Nat) : (errC l).size = l.length := by simp [errC]
theorem errC_at {w : World} {g : Nat} {l : List Nat} {U : TypeId} (h : w.heap[g]? = some (.cells (errC l) U (0, 0))) : SlAt ern 1 w (some ⟨g, 0, none⟩) l := by
  refine .inr ⟨g, 0, _, U, (0, 0), rfl, h, fun i x hx => ?_⟩
  obtain ⟨hi, rfl⟩ := List.getElem?_eq_some_iff.1 hx
  refine ⟨?_, by rw [errC_size]; omega⟩
  apply Array.ext_getElem?
  intro j
  simp only [Nat.zero_add, Nat.mul_one, Array.getElem?_extract, errC, zA, List.getElem?_map, List.size_toArray, List.length_map, ern]
  cases j with
  | zero => simp [hi]; omega
  | succ j =>
    rw [if_neg (by omega)]
    rfl
theorem errC_set (l : List Nat) (i v : Nat) : (errC l).setIfInBounds i (.int .i64 (v : Int)) = errC (l.set i v) := by
  simp [errC, List.map_set]
theorem mkErr (n : Nat) (hn : n ≤ 100000) (w : World) : (Instr.makeSlice 41 (.int .i64 (n : Int)) (.int .i64 (n : Int))).run Try.prog w = .ok (.slice (some ⟨w.heap.size, 0, none⟩) n n) (w.alloc (.cells (errC (List.replicate n 0)) 62)) := by
  obtain ⟨i0, hi, hz0, hz1, hz2⟩ := info_parts (show (Try.prog.info? 62).map (fun i => (i.zero, i.size, i.bytes)) = some (some (.int .i64 0), 1, 8) by kernel_rfl)
  have := run_make (P := Try.prog) w 41 62 i0 _ Try.underlying41 hi hz0 .i64 .i64 (n : Int) (n : Int) (by omega) (by omega) (by rw [hz2]; omega) (by omega)
  rw [hz1, Nat.mul_one] at this
  have hc : madeCells #[Value.int .i64 0] n = errC (List.replicate n 0) := by
    apply Array.toList_inj.1
    rw [toList_madeCells_one]
    simp [errC]
  simpa [Value.cells, hc] using this
set_option maxHeartbeats 1600000 in
theorem recordN (v : Value) (a : Option Addr) (n c : Nat) (w : World) (h : NoBk w v) (hn : n ≤ 100000) : Calls Try.prog 8 #[v, .slice a n c] w fun e w' => ∃ g, e = .returned (.slice (some ⟨g, 0, none⟩) n n) ∧ w.heap.size ≤ g ∧ SlAt ern 1 w' (some ⟨g, 0, none⟩) (List.replicate n 2) ∧ Mod (fun _ => False) w w' := by
  have H := Lib.hid h
  clear h
  have hmk := mkErr n hn
  go_enter Try.func8, Try.ntmps8
  go_upto_region 1 with fail
  refine wp_pass0 (C := fun _ _ _ => False) (κ := fun i => [0, 0, 3, 0].getD i 0) [0, 1, 2, 3] (by kernel_rfl) (by kernel_rfl) (fun _ _ d _ _ h => by cases d <;> first | exact h | exact absurd h (hP _ _ _)) ?_
  (refine TD.val0 (v := ?v6) (by simp only [zA, zB, zC]; rfl) rfl ?hw6 (fun w1 => ?hy6) ?hn6; (case hw6 => rfl); (case hy6 => (go_simp; (try with_reducible rfl))); (try simp only [Act.put, zF, zG, zH]))
  (refine TD.val0 (v := ?v7) (by simp only [zA, zB, zC]; rfl) rfl ?hw7 (fun w1 => ?hy7) ?hn7; (case hw7 => rfl); (case hy7 => (go_simp; (try with_reducible rfl))); (try simp only [Act.put, zF, zG, zH]))
  (refine TD.mks (by simp only [zA, zB, zC]; rfl) rfl ?hw8 rfl rfl ?hx8 ?hz8 hmk (fun p13 hp13 => ?hn8); (case hw8 => rfl); (case hx8 => (simp only [Act.eval, zD, zA, zB, zC, zE]; (try rfl))); (case hz8 => (simp only [Act.eval, zD, zA, zB, zC, zE]; (try rfl))); (try simp only [Act.put, zF, zG, zH]))
  (refine TD.val0 (v := ?v9) (by simp only [zA, zB, zC]; rfl) rfl ?hw9 (fun w1 => ?hy9) ?hn9; (case hw9 => rfl); (case hy9 => (go_simp; (try with_reducible rfl))); (try simp only [Act.put, zF, zG, zH]))
  refine TD.nil (fun w1 hr => ?_)
  have kp13 := hr.box p13 _ (by first | exact Bx.set_same _ _ _ | (simp only [Bx.set_same]; rfl)); dsimp only [Value.cells] at kp13; obtain ⟨gp13, kp13⟩ := kp13
  clear hmk
  have m1 := hr.mod
  go_wp2_with fail
  go_at_call 33
  refine (bthereN v _ (H.out.mod0 m1)).mono ?_
  rintro e w2 ⟨rfl, rfl⟩
  go_wp2_with fail
  go_loopw [19] (fun s19 ws => ∃ i : Nat, i ≤ n ∧ s19 = .int .i64 (i : Int) ∧ ws.heap[p13]? = some (.cells (errC (List.replicate i 2 ++ List.replicate (n - i) 0)) 62 (0, 0)) ∧ Mod (fun i => i = p13) w1 ws) (fun s19 _ => n - (intOf s19).toNat)
  case atStart => exact ⟨0, by omega, rfl, by simpa using kp13, Mod.refl _ _⟩
  case round =>
    obtain ⟨i, hi, rfl, kq, hm⟩ := hrel
    by_cases hlt : i < n
    · have hs : (errC (List.replicate i 2 ++ List.replicate (n - i) 0)).size = n := by rw [errC_size]; simp; omega
      have hset : (errC (List.replicate i 2 ++ List.replicate (n - i) 0)).setIfInBounds i (.int .i64 2) = errC (List.replicate (i + 1) 2 ++ List.replicate (n - (i + 1)) 0) := by
        refine (errC_set _ i 2).trans ?_
        congr 1
        obtain ⟨d, rfl⟩ : ∃ d, n = i + 1 + d := ⟨n - (i + 1), by omega⟩
        rw [show i + 1 + d - i = d + 1 by omega, show i + 1 + d - (i + 1) = d by omega, List.set_append_right _ _ (by simp), List.length_replicate, Nat.sub_self, List.replicate_succ, zG, List.replicate_succ' (n := i), List.append_assoc]
        rfl
      generalize hE : errC (List.replicate i 2 ++ List.replicate (n - i) 0) = E at *
      generalize hE2 : errC (List.replicate (i + 1) 2 ++ List.replicate (n - (i + 1)) 0) = E2 at *
      clear hE
      go_wp2_with fail
      go_roundw
      case rel =>
        rw [setCell_blk kq, hset]
        exact ⟨i + 1, by omega, by go_num, by rw [hE2]; exact heap_setBlock _ _ (lt_size kq), hm.setBlock _ (fun _ => rfl)⟩
      case measure => simp [intOf]; omega
    · obtain rfl : i = n := by omega
      go_wp2_with fail
      go_ret
      exact ⟨_, rfl, gp13, by have := errC_at kq; simpa using this, m1.thenB hm (.inl gp13)⟩
end Go.Proofs.Ytofpnmoeimjnnaa
