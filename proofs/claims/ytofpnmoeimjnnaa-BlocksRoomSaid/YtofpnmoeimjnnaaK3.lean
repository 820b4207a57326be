/- The lemmas of the proof, part 3: how the program and its data lie in memory, and what its functions do. -/
import Derived.Test.YtofpnmoeimjnnaaK2
import Derived.Sort.Walk0
import Derived.Lib.Bytes
import Derived.OwnWalk
import Derived.Laws.Externs
import Derived.Laws.Bits64b
import Derived.Shelf.Bits.Mul64
import Derived.RangeFuncNested
import Derived.RangeFuncBox
import Derived.RangeFuncLeaves
import Derived.RangeFuncCalls
import Derived.Shelf.Abstract
import Derived.WalkKit
import Derived.OwnWalkIn
import Derived.TacticsInMore
import Derived.LoopNIn
import Derived.LoopIn
import Derived.Maps.AppendAt
namespace Go.Proofs.Ytofpnmoeimjnnaa
open Go.RowKit
open Go.ChangeMaps (setBlock)
set_option linter.unusedSimpArgs false
set_option linter.unusedVariables false
attribute [local go_sem ↓] wlKey ldKey stKey wlAcct ldAcct stAcct wlHold ldHold stHold wlHash ldHash stHash wlSig ldSig stSig wlLim ldLim stLim wlRdy ldRdy stRdy wlOut ldOut stOut wlTd ldTd stTd wlTx ldTx stTx eqKey1
attribute [local go_sem] eqMap neMap av_size av_all av_one hd_size hd_key hd_acct hd_all hd_one zKey_size zAcct_size zHold_size zHash_size zSg_size zLim_size zRdy_size zOut_size zTried_size zTx_size cell_blk frozen_blk kc_ext one_int one_bool one_ptr one_slice one_map kc_one kc_one0 kc_size sgc_size sgc_ext sgc_one0 sgc_one' rdr_size rdr_all rdr_one rdr_tx rdr_rec rdr0 rdr1 rdr6 rdr39 rdr40 rdr41 rdr0' rdr1' rdr6' rdr39' rdr40' rdr41' ocr_size ocr_all ocr_one ocr2 ocr3 ocr4 ocr5 ocr2' ocr3' ocr4' ocr5' tdr_size tdr_all tdr_one tdr_r tdr_o tdr_tx tdr_rec tdr0 tdr1 tdr41 tdr50 tdr51 tdr52 tdr53 tdr0' tdr1' tdr41' tdr50' tdr51' tdr52' tdr53' txr_size txr_all txr_one txr0 txr38 txr39 txr0' txr38' txr39' Value.cells
attribute [local go_sem ↓] eqHash eqSig
attribute [local go_sem] zHash_ext zHash_one0 eqMapS neMapS
def snr (x : Sg × Key) : Array Value := sgc x.1 ++ kc x.2
theorem snr_size (x : Sg × Key) : (snr x).size = 96 := by simp [snr, sgc_size]
theorem snr_one' (x : Sg × Key) : (snr x).all (·.oneCell') = true := by
  unfold snr
  rw [Array.all_append, sgc_one', kc_one]
  rfl
theorem snr_one (x : Sg × Key) : (snr x).all (·.oneCell') 0 96 = true := all_of (snr_size x) (snr_one' x)
theorem snr_all (x : Sg × Key) : (snr x).extract 0 96 = snr x := by
  rw [show (96 : Nat) = (snr x).size by rw [snr_size]]
  exact Array.extract_size
theorem snr_sig (x : Sg × Key) : (snr x).extract 0 64 = sgc x.1 := by
  unfold snr
  have h := sgc_size x.1
  apply Array.toList_inj.1
  have hl : (sgc x.1).toList.length = 64 := by rw [Array.length_toList, h]
  rw [Array.toList_extract, Array.toList_append]
  simp only [List.extract, List.drop_zero, Nat.sub_zero]
  rw [List.take_append_of_le_length (by omega), List.take_of_length_le (by omega)]
def zSeen : Array Value := snr (sig0, key0)
theorem zSeen_size : zSeen.size = 96 := snr_size _
theorem ldSeen (w : World) (b o : Nat) : (Instr.loadAt 164 (.pointer (some ⟨b, o, none⟩))).run Try.prog w =
      match w.heap[b]? with
      | some (.cells cs _ _) => if o + 96 ≤ cs.size then .ok (.agg (cs.extract o (o + 96))) w else farL Try.prog w 164 b o
      | _ => farL Try.prog w 164 b o := load_rule (d := _) Try.underlying164 rfl (by kernel_rfl) w b o
theorem stSeen (w : World) (b o : Nat) (xs : Array Value) : (Instr.storeAt 164 (.pointer (some ⟨b, o, none⟩)) (.agg xs)).run Try.prog w =
      match w.heap[b]? with
      | some (.cells cs U (0, 0)) =>
        if o + 96 ≤ cs.size ∧ xs.size = 96 ∧ xs.all (·.oneCell') = true then .ok () (setBlock w b (.cells (if o = 0 ∧ 96 = cs.size then xs else wr cs o xs.toList) U (0, 0))) else farS Try.prog w 164 b o (.agg xs)
      | _ => farS Try.prog w 164 b o (.agg xs) := store_rule (by kernel_rfl) w b o xs
theorem wlSeen (dst : Option Tmp) (x : Operand) (ty : TypeId) (pos : String) (after : Array Edge) (g : Option (Nat × Bool)) (a : Act) (w : World) (K : Act → World → Prop) (Q : Exit → Act → World → Prop) :
    Oper.wp Try.prog { dst := dst, op := .load 164 x, type := ty, pos := pos, after := after, guard := g } a w K Q =
      (match a.eval x with
      | .pointer (some ⟨b, o, none⟩) =>
        (match w.heap[b]? with
        | some (.cells cs _ _) => if o + 96 ≤ cs.size then K (a.put dst (.agg (cs.extract o (o + 96)))) w else farW Try.prog { dst := dst, op := .load 164 x, type := ty, pos := pos, after := after, guard := g } a w K Q
        | _ => farW Try.prog { dst := dst, op := .load 164 x, type := ty, pos := pos, after := after, guard := g } a w K Q)
      | _ => farW Try.prog { dst := dst, op := .load 164 x, type := ty, pos := pos, after := after, guard := g } a w K Q) := wp_load_rule (d := _) Try.underlying164 rfl (by kernel_rfl) dst x ty pos after g a w K Q
attribute [local go_sem ↓] wlSeen ldSeen stSeen
attribute [local go_sem] snr_size snr_one snr_all zSeen_size
theorem seenT : ElT Try.prog 159 164 snr 96 96 where
  u := Try.underlying159
  info := by
    obtain ⟨i0, hi, hz0, hz1, hz2⟩ := info_parts (show (Try.prog.info? 164).map (fun i => (i.zero, i.size, i.bytes)) = some (some (.agg zSeen), 96, 96) by kernel_rfl)
    exact ⟨i0, _, hi, hz0, hz1, hz2, by simp [Value.cells, zSeen_size]⟩
  pos := by omega
  size := snr_size
  one x := by
    have := snr_one' x
    rw [Array.all_eq_true_iff_forall_mem] at this
    intro u hu
    exact this u (by simpa using hu)
theorem bldSeen (g : Sg) (k : Key) (w : World) : (Instr.build 164 #[(0, .agg (sgc g)), (1, .agg (kc k))]).run Try.prog w = .ok (.agg (snr (g, k))) w := by
  refine run_build_struct (z := .agg zSeen) (places := #[(0, 64), (64, 32)]) Try.underlying164 (fun w => by kernel_rfl) (fun w => by kernel_rfl) ?_ w
  show Instr.fill _ zSeen [(0, _), (1, _)] = _
  have hk : (kc k).toList.length = 32 := by simp
  have hl : (sgc g).toList.length = 64 := by rw [Array.length_toList, sgc_size]
  have hz : zSeen.toList.length = 96 := by rw [Array.length_toList, zSeen_size]
  rw [fill_cons (off := 0) (n := 64) rfl (by simp [Value.cells, sgc_size]) (by rw [zSeen_size]; omega), fill_cons (off := 64) (n := 32) rfl (by simp [Value.cells]) (by rw [wr_size, zSeen_size]; omega)]
  show some _ = some _
  congr 1
  apply Array.toList_inj.1
  rw [wr_list _ _ _ (by rw [wr_size, zSeen_size]; simp [Value.cells]), wr_list _ _ _ (by rw [zSeen_size]; simp [Value.cells, sgc_size])]
  simp only [Value.cells, snr, Array.toList_append, List.take_zero, List.nil_append, hk, hl]
  rw [List.take_append_of_le_length (by omega), List.take_of_length_le (by omega), List.drop_of_length_le (by simp [hl, hz]), List.append_nil]
theorem bsSeen (x : Sg × Key) (w : World) : (Instr.buildSlice 159 1 #[(0, .agg (snr x))]).run Try.prog w = .ok (.slice (some ⟨w.heap.size, 0, none⟩) 1 1) (w.alloc (.cells (snr x) 164)) := by
  obtain ⟨i0, hi, hz0, hz1, hz2⟩ := info_parts (show (Try.prog.info? 164).map (fun i => (i.zero, i.size, i.bytes)) = some (some (.agg zSeen), 96, 96) by kernel_rfl)
  refine run_buildSlice w _ _ 1 _ _ i0 _ Try.underlying159 hi hz0 (by rw [hz1]; omega) (by rw [hz1]; omega) ?_
  rw [hz1]
  show Instr.fill _ _ [(0, _)] = _
  rw [fill_cons (off := 0) (n := 96) rfl (by simp [Value.cells, snr_size]) (by simp [Value.cells, zSeen_size, size_madeCells])]
  show some (wr _ 0 (snr x).toList) = _
  rw [wr_whole (snr x) _ (by simp [Value.cells, zSeen_size, snr_size, size_madeCells])]
def DS (T : Nat → Prop) (w : World) (o : Nat) (M : List (Sg × Key)) : Prop := ∃ v, w.heap[o]? = some (.cells #[v] 161 (0, 0)) ∧ SlOwn snr 96 164 w 0 v M ∧ T o ∧ (∀ g, v.ownBlock = some g → T g)
theorem DS.mod {T S : Nat → Prop} {w w' : World} {o : Nat} {M : List (Sg × Key)} (h : DS T w o M) (hm : Mod S w w') (hS : ∀ i, T i → ¬ S i) : DS T w' o M := by
  obtain ⟨v, h1, h2, h3, h4⟩ := h
  exact ⟨v, hm.at h1 (hS _ h3), h2.mod hm (fun b hb => hS b (h4 b hb)), h3, h4⟩
theorem DS.mod0 {T : Nat → Prop} {w w' : World} {o : Nat} {M : List (Sg × Key)} (h : DS T w o M) (hm : Mod (fun _ => False) w w') : DS T w' o M := h.mod hm (fun _ _ h => h)
theorem DS.mono {T T' : Nat → Prop} {w : World} {o : Nat} {M : List (Sg × Key)} (h : DS T w o M) (hT : ∀ i, T i → T' i) : DS T' w o M := by
  obtain ⟨v, h1, h2, h3, h4⟩ := h
  exact ⟨v, h1, h2, hT _ h3, fun g hg => hT _ (h4 g hg)⟩
theorem snew_c (w : World) : Calls Try.prog 29 #[] w fun e w' => ∃ o, e = .returned (ptrV o) ∧ w.heap.size ≤ o ∧ o < w'.heap.size ∧ DS (fun i => i = o) w' o [] ∧ Mod (fun _ => False) w w' := by
  have hb : ∀ w, (Instr.build 161 #[]).run Try.prog w = .ok (.agg #[.slice none 0 0]) w := fun w => by kernel_rfl
  go_enter Try.func29, Try.ntmps29
  go_wp2_with fail
  go_ret
  exact ⟨_, rfl, Nat.le_refl _, lt_size (heap_alloc_new _ _), ⟨_, heap_alloc_new _ _, SlOwn.nil _ _, rfl, fun g h => by cases h⟩, (Mod.refl _ _).alloc _⟩
theorem seen_at {w : World} {a : Option Addr} {l : List (Sg × Key)} (h : SlAt snr 96 w a l) {i : Nat} {x : Sg × Key} (hx : l[i]? = some x) : ∃ g o C U fr, a = some ⟨g, o, none⟩ ∧ w.heap[g]? = some (.cells C U fr) ∧ C.extract (o + i * 96) (o + i * 96 + 64) = sgc x.1 ∧ o + i * 96 + 96 ≤ C.size := by
  obtain ⟨g, o, C, U, fr, e, hk, he, hle⟩ := h.block hx
  refine ⟨g, o, C, U, fr, e, hk, ?_, hle⟩
  rw [← snr_sig, ← he]
  simp [Array.extract_extract]
set_option maxRecDepth 20000 in
set_option maxHeartbeats 1600000 in
theorem rhas_c {T : Nat → Prop} (h : Nat) (M : List (Sg × Key)) (k : Sg) (w : World) (hD : DS T w h M) : Calls Try.prog 61 #[ptrV h, .agg (sgc k)] w fun e w' => (∃ b, e = .returned (.bool b)) ∧ Mod (fun _ => False) w w' := by
  obtain ⟨v, kh, hO, -, -⟩ := hD
  obtain ⟨a, c, rfl, hL, _, hmax⟩ := hO.at seenT
  have HL := Lib.hid hL
  simp only [maxLen] at hmax
  clear hL hO
  go_enter Try.func61, Try.ntmps61
  go_upto_region 0 with fail
  have Lkh := lt_size kh
  refine wp_pass0 (C := fun _ _ _ => False) (κ := fun i => [3, 0].getD i 0) [0, 1] (by kernel_rfl) (by kernel_rfl) (fun _ _ d _ _ h => by cases d <;> first | exact h | exact absurd h (hP _ _ _)) ?_
  (refine TD.box (v := ?v1) (by simp only [zA, zB, zC]; rfl) rfl ?hw1 rfl rfl ?hx1 (fun p3 hp3 => ?hn1); (case hw1 => rfl); (case hx1 => (simp only [Act.eval, zD, zA, zB, zC, zE]; (try rfl))); (try simp only [Act.put, zF, zG, zH]))
  (refine TD.val0 (v := ?v2) (by simp only [zA, zB, zC]; rfl) rfl ?hw2 (fun w1 => ?hy2) ?hn2; (case hw2 => rfl); (case hy2 => (go_simp; (try with_reducible rfl))); (try simp only [Act.put, zF, zG, zH]))
  refine TD.nil (fun w1 hr => ?_)
  replace kh := hr.mod.at kh (fun h => h)
  have kp3 := hr.box p3 _ (by first | exact Bx.set_same _ _ _ | (simp only [Bx.set_same]; rfl)); dsimp only [Value.cells] at kp3; obtain ⟨gp3, kp3⟩ := kp3
  have m1 := hr.mod
  clear hr
  go_wp2_with fail
  go_loopw [5] (fun s5 ws => ∃ i : Nat, i ≤ M.length ∧ s5 = .int .i64 (i : Int) ∧ Mod (fun _ => False) w1 ws) (fun s5 _ => M.length - (intOf s5).toNat)
  case atStart => exact ⟨0, Nat.zero_le _, rfl, Mod.refl _ _⟩
  case round =>
    obtain ⟨i, hi, rfl, hm⟩ := hrel
    replace kh := hm.at0 kh
    replace kp3 := hm.at0 kp3
    by_cases hlt : i < M.length
    · have hd := decide_eq_true hlt
      obtain ⟨x, hx⟩ : ∃ x, M[i]? = some x := ⟨_, List.getElem?_eq_getElem hlt⟩
      obtain ⟨g, o, C, U, fr, rfl, kg, he, hle⟩ := seen_at (HL.out.mod0 (m1.then0 hm)) hx
      have hle2 : o + i * 96 + 64 ≤ C.size := by omega
      clear hx
      by_cases hxk : x.1 = k
      · have hne := decide_eq_true hxk
        clear hxk
        go_upto_region 4 with fail
        have Lkh := lt_size kh
        have Lkg := lt_size kg
        have Lkp3 := lt_size kp3
        refine wp_pass (C := fun _ _ _ => False) (κ := fun i => [0, 0, 0, 1, 0, 0, 0, 1, 1, 0].getD i 0) [0, 1, 2, 3, 4, 5, 6, 7, 8, 9] (by kernel_rfl) (by kernel_rfl) (fun _ _ d _ _ h => by cases d <;> first | exact h | exact absurd h (hP _ _ _)) ?_
        (refine TD.val0 (v := ?v3) (by simp only [zA, zB, zC]; rfl) rfl ?hw3 (fun w1 => ?hy3) ?hn3; (case hw3 => rfl); (case hy3 => (go_simp; (try with_reducible rfl))); (try simp only [Act.put, zF, zG, zH]))
        (refine TD.val0 (v := ?v4) (by simp only [zA, zB, zC]; rfl) rfl ?hw4 (fun w1 => ?hy4) ?hn4; (case hw4 => rfl); (case hy4 => (go_simp; (try with_reducible rfl))); (try simp only [Act.put, zF, zG, zH]))
        (refine TD.val0 (v := ?v5) (by simp only [zA, zB, zC]; rfl) rfl ?hw5 (fun w1 => ?hy5) ?hn5; (case hw5 => rfl); (case hy5 => (go_simp; (try with_reducible rfl))); (try simp only [Act.put, zF, zG, zH]))
        (refine TD.load (v := ?v6) (p := ?p6) (Mod.refl _ _) (by simp only [zA, zB, zC]; rfl) rfl ?hw6 rfl ?hx6 (fun wq hSq => ?hy6) ?hn6; (case hw6 => rfl); (case hx6 => (simp only [Act.eval, zD, zA, zB, zC, zE]; (try rfl))); (case hy6 => (have khq := hSq.at kh (fun h => h); have kgq := hSq.at kg (fun h => h); have kp3q := hSq.at kp3 (fun h => h); go_simp; (try with_reducible rfl))); (try simp only [Act.put, zF, zG, zH]))
        (refine TD.val0 (v := ?v7) (by simp only [zA, zB, zC]; rfl) rfl ?hw7 (fun w1 => ?hy7) ?hn7; (case hw7 => rfl); (case hy7 => (go_simp; (try with_reducible rfl))); (try simp only [Act.put, zF, zG, zH]))
        (refine TD.val0 (v := ?v8) (by simp only [zA, zB, zC]; rfl) rfl ?hw8 (fun w1 => ?hy8) ?hn8; (case hw8 => rfl); (case hy8 => (go_simp; (try with_reducible rfl))); (try simp only [Act.put, zF, zG, zH]))
        (refine TD.val0 (v := ?v9) (by simp only [zA, zB, zC]; rfl) rfl ?hw9 (fun w1 => ?hy9) ?hn9; (case hw9 => rfl); (case hy9 => (go_simp; (try with_reducible rfl))); (try simp only [Act.put, zF, zG, zH]))
        (refine TD.load (v := ?v10) (p := ?p10) (Mod.refl _ _) (by simp only [zA, zB, zC]; rfl) rfl ?hw10 rfl ?hx10 (fun wq hSq => ?hy10) ?hn10; (case hw10 => rfl); (case hx10 => (simp only [Act.eval, zD, zA, zB, zC, zE]; (try rfl))); (case hy10 => (have khq := hSq.at kh (fun h => h); have kgq := hSq.at kg (fun h => h); have kp3q := hSq.at kp3 (fun h => h); go_simp; (try with_reducible rfl))); (try simp only [Act.put, zF, zG, zH]))
        (refine TD.load (v := ?v11) (p := ?p11) (Mod.refl _ _) (by simp only [zA, zB, zC]; rfl) rfl ?hw11 rfl ?hx11 (fun wq hSq => ?hy11) ?hn11; (case hw11 => rfl); (case hx11 => (simp only [Act.eval, zD, zA, zB, zC, zE]; (try rfl))); (case hy11 => (have khq := hSq.at kh (fun h => h); have kgq := hSq.at kg (fun h => h); have kp3q := hSq.at kp3 (fun h => h); go_simp; (try with_reducible rfl))); (try simp only [Act.put, zF, zG, zH]))
        (refine TD.val0 (v := ?v12) (by simp only [zA, zB, zC]; rfl) rfl ?hw12 (fun w1 => ?hy12) ?hn12; (case hw12 => rfl); (case hy12 => (go_simp; (try with_reducible rfl))); (try simp only [Act.put, zF, zG, zH]))
        refine TD.nil (fun w3 hr => ?_)
        replace kh := hr.mod.at kh (fun h => h)
        replace kg := hr.mod.at kg (fun h => h)
        replace kp3 := hr.mod.at kp3 (fun h => h)
        have hm3 := hm.then0 hr.mod
        clear hr
        go_wp2_with fail
        go_ret
        exact ⟨⟨_, rfl⟩, m1.then0 hm3⟩
      · have hne := decide_eq_false hxk
        clear hxk
        go_upto_region 4 with fail
        have Lkh := lt_size kh
        have Lkg := lt_size kg
        have Lkp3 := lt_size kp3
        refine wp_pass (C := fun _ _ _ => False) (κ := fun i => [0, 0, 0, 1, 0, 0, 0, 1, 1, 0].getD i 0) [0, 1, 2, 3, 4, 5, 6, 7, 8, 9] (by kernel_rfl) (by kernel_rfl) (fun _ _ d _ _ h => by cases d <;> first | exact h | exact absurd h (hP _ _ _)) ?_
        (refine TD.val0 (v := ?v13) (by simp only [zA, zB, zC]; rfl) rfl ?hw13 (fun w1 => ?hy13) ?hn13; (case hw13 => rfl); (case hy13 => (go_simp; (try with_reducible rfl))); (try simp only [Act.put, zF, zG, zH]))
        (refine TD.val0 (v := ?v14) (by simp only [zA, zB, zC]; rfl) rfl ?hw14 (fun w1 => ?hy14) ?hn14; (case hw14 => rfl); (case hy14 => (go_simp; (try with_reducible rfl))); (try simp only [Act.put, zF, zG, zH]))
        (refine TD.val0 (v := ?v15) (by simp only [zA, zB, zC]; rfl) rfl ?hw15 (fun w1 => ?hy15) ?hn15; (case hw15 => rfl); (case hy15 => (go_simp; (try with_reducible rfl))); (try simp only [Act.put, zF, zG, zH]))
        (refine TD.load (v := ?v16) (p := ?p16) (Mod.refl _ _) (by simp only [zA, zB, zC]; rfl) rfl ?hw16 rfl ?hx16 (fun wq hSq => ?hy16) ?hn16; (case hw16 => rfl); (case hx16 => (simp only [Act.eval, zD, zA, zB, zC, zE]; (try rfl))); (case hy16 => (have khq := hSq.at kh (fun h => h); have kgq := hSq.at kg (fun h => h); have kp3q := hSq.at kp3 (fun h => h); go_simp; (try with_reducible rfl))); (try simp only [Act.put, zF, zG, zH]))
        (refine TD.val0 (v := ?v17) (by simp only [zA, zB, zC]; rfl) rfl ?hw17 (fun w1 => ?hy17) ?hn17; (case hw17 => rfl); (case hy17 => (go_simp; (try with_reducible rfl))); (try simp only [Act.put, zF, zG, zH]))
        (refine TD.val0 (v := ?v18) (by simp only [zA, zB, zC]; rfl) rfl ?hw18 (fun w1 => ?hy18) ?hn18; (case hw18 => rfl); (case hy18 => (go_simp; (try with_reducible rfl))); (try simp only [Act.put, zF, zG, zH]))
        (refine TD.val0 (v := ?v19) (by simp only [zA, zB, zC]; rfl) rfl ?hw19 (fun w1 => ?hy19) ?hn19; (case hw19 => rfl); (case hy19 => (go_simp; (try with_reducible rfl))); (try simp only [Act.put, zF, zG, zH]))
        (refine TD.load (v := ?v20) (p := ?p20) (Mod.refl _ _) (by simp only [zA, zB, zC]; rfl) rfl ?hw20 rfl ?hx20 (fun wq hSq => ?hy20) ?hn20; (case hw20 => rfl); (case hx20 => (simp only [Act.eval, zD, zA, zB, zC, zE]; (try rfl))); (case hy20 => (have khq := hSq.at kh (fun h => h); have kgq := hSq.at kg (fun h => h); have kp3q := hSq.at kp3 (fun h => h); go_simp; (try with_reducible rfl))); (try simp only [Act.put, zF, zG, zH]))
        (refine TD.load (v := ?v21) (p := ?p21) (Mod.refl _ _) (by simp only [zA, zB, zC]; rfl) rfl ?hw21 rfl ?hx21 (fun wq hSq => ?hy21) ?hn21; (case hw21 => rfl); (case hx21 => (simp only [Act.eval, zD, zA, zB, zC, zE]; (try rfl))); (case hy21 => (have khq := hSq.at kh (fun h => h); have kgq := hSq.at kg (fun h => h); have kp3q := hSq.at kp3 (fun h => h); go_simp; (try with_reducible rfl))); (try simp only [Act.put, zF, zG, zH]))
        (refine TD.val0 (v := ?v22) (by simp only [zA, zB, zC]; rfl) rfl ?hw22 (fun w1 => ?hy22) ?hn22; (case hw22 => rfl); (case hy22 => (go_simp; (try with_reducible rfl))); (try simp only [Act.put, zF, zG, zH]))
        refine TD.nil (fun w3 hr => ?_)
        replace kh := hr.mod.at kh (fun h => h)
        replace kg := hr.mod.at kg (fun h => h)
        replace kp3 := hr.mod.at kp3 (fun h => h)
        have hm3 := hm.then0 hr.mod
        clear hr
        go_wp2_with fail
        go_roundw
        case rel => exact ⟨i + 1, by omega, by go_num, hm3⟩
        case measure => simp [intOf]; omega
    · have hd := decide_eq_false hlt
      go_wp2_with fail
      go_ret
      exact ⟨⟨_, rfl⟩, m1.then0 hm⟩
set_option maxRecDepth 20000 in
set_option maxHeartbeats 3200000 in
theorem rmark_c {T : Nat → Prop} (h : Nat) (M : List (Sg × Key)) (g : Sg) (k : Key) (w : World) (hD : DS T w h M) (hT : ∀ i, T i → i < w.heap.size) (hM : M.length < 1000000) : Calls Try.prog 31 #[ptrV h, .agg (sgc g), .agg (kc k)] w fun e w' => (∃ v, e = .returned v) ∧ (∃ M', M'.length ≤ M.length + 1 ∧ DS (fun i => T i ∨ (w.heap.size ≤ i ∧ i < w'.heap.size)) w' h M') ∧ Mod T w w' := by
  have H := Lib.hid hD
  have HT := Lib.hid hT
  have HMM := Lib.hid hM
  obtain ⟨v, kh, hO, t1, t2⟩ := hD
  obtain ⟨a, c, rfl, _, _, _⟩ := hO.at seenT
  have HO := Lib.hid (And.intro hO (And.intro t1 t2))
  clear hO t1 t2 hT hM
  go_enter Try.func31, Try.ntmps31
  go_upto_region 0 with fail
  have Lkh := lt_size kh
  refine wp_pass0 (C := fun _ _ _ => False) (κ := fun i => [3, 3, 0].getD i 0) [0, 1, 2] (by kernel_rfl) (by kernel_rfl) (fun _ _ d _ _ h => by cases d <;> first | exact h | exact absurd h (hP _ _ _)) ?_
  (refine TD.box (v := ?v23) (by simp only [zA, zB, zC]; rfl) rfl ?hw23 rfl rfl ?hx23 (fun p4 hp4 => ?hn23); (case hw23 => rfl); (case hx23 => (simp only [Act.eval, zD, zA, zB, zC, zE]; (try rfl))); (try simp only [Act.put, zF, zG, zH]))
  (refine TD.box (v := ?v24) (by simp only [zA, zB, zC]; rfl) rfl ?hw24 rfl rfl ?hx24 (fun p5 hp5 => ?hn24); (case hw24 => rfl); (case hx24 => (simp only [Act.eval, zD, zA, zB, zC, zE]; (try rfl))); (try simp only [Act.put, zF, zG, zH]))
  obtain ⟨ne_p5_p4, hp5⟩ := Bx.set_none hp5
  (refine TD.val0 (v := ?v25) (by simp only [zA, zB, zC]; rfl) rfl ?hw25 (fun w1 => ?hy25) ?hn25; (case hw25 => rfl); (case hy25 => (go_simp; (try with_reducible rfl))); (try simp only [Act.put, zF, zG, zH]))
  refine TD.nil (fun w1 hr => ?_)
  replace kh := hr.mod.at kh (fun h => h)
  have kp4 := hr.box p4 _ (by first | exact Bx.set_same _ _ _ | (simp only [Bx.set_ne _ (Ne.symm ne_p5_p4), Bx.set_ne _ ne_p5_p4, Bx.set_same]; rfl)); dsimp only [Value.cells] at kp4; obtain ⟨gp4, kp4⟩ := kp4
  have kp5 := hr.box p5 _ (by first | exact Bx.set_same _ _ _ | (simp only [Bx.set_ne _ (Ne.symm ne_p5_p4), Bx.set_ne _ ne_p5_p4, Bx.set_same]; rfl)); dsimp only [Value.cells] at kp5; obtain ⟨gp5, kp5⟩ := kp5
  have m1 := hr.mod
  clear hr
  go_wp2_with fail
  go_at_call 61
  refine (rhas_c h M g _ (H.out.mod0 m1)).mono ?_
  rintro e w2 ⟨⟨b, rfl⟩, mh⟩
  replace kh := mh.at0 kh
  replace kp4 := mh.at0 kp4
  replace kp5 := mh.at0 kp5
  have m2 := m1.then0 mh
  have HM2 := Lib.hid m2
  clear m1 mh
  cases b with
  | true =>
    go_wp2_with fail
    go_ret
    exact ⟨⟨_, rfl⟩, ⟨M, by omega, (H.out.mod0 HM2.out).mono (fun i hi => .inl hi)⟩, HM2.out.mono (fun _ _ h => h.elim)⟩
  | false =>
    have hbl := bldSeen g k
    have hbs := bsSeen (g, k)
    generalize hll : M.length = ll at *
    have HLL := Lib.hid hll
    clear hll
    go_upto_region 3 with fail
    have Lkh := lt_size kh
    have Lkp4 := lt_size kp4
    have Lkp5 := lt_size kp5
    refine wp_pass (C := fun _ _ _ => False) (κ := fun i => [0, 0, 0, 0, 1, 1, 1, 0, 3, 5, 0, 0, 6].getD i 0) [0, 1, 2, 3, 4, 5, 6, 7, 8, 9, 10, 11, 12] (by kernel_rfl) (by kernel_rfl) (fun _ _ d _ _ h => by cases d <;> first | exact h | exact absurd h (hP _ _ _)) ?_
    (refine TD.val0 (v := ?v26) (by simp only [zA, zB, zC]; rfl) rfl ?hw26 (fun w1 => ?hy26) ?hn26; (case hw26 => rfl); (case hy26 => (go_simp; (try with_reducible rfl))); (try simp only [Act.put, zF, zG, zH]))
    (refine TD.val0 (v := ?v27) (by simp only [zA, zB, zC]; rfl) rfl ?hw27 (fun w1 => ?hy27) ?hn27; (case hw27 => rfl); (case hy27 => (go_simp; (try with_reducible rfl))); (try simp only [Act.put, zF, zG, zH]))
    (refine TD.val0 (v := ?v28) (by simp only [zA, zB, zC]; rfl) rfl ?hw28 (fun w1 => ?hy28) ?hn28; (case hw28 => rfl); (case hy28 => (go_simp; (try with_reducible rfl))); (try simp only [Act.put, zF, zG, zH]))
    (refine TD.val0 (v := ?v29) (by simp only [zA, zB, zC]; rfl) rfl ?hw29 (fun w1 => ?hy29) ?hn29; (case hw29 => rfl); (case hy29 => (go_simp; (try with_reducible rfl))); (try simp only [Act.put, zF, zG, zH]))
    (refine TD.load (v := ?v30) (p := ?p30) (Mod.refl _ _) (by simp only [zA, zB, zC]; rfl) rfl ?hw30 rfl ?hx30 (fun wq hSq => ?hy30) ?hn30; (case hw30 => rfl); (case hx30 => (simp only [Act.eval, zD, zA, zB, zC, zE]; (try rfl))); (case hy30 => (have khq := hSq.at kh (fun h => h); have kp4q := hSq.at kp4 (fun h => h); have kp5q := hSq.at kp5 (fun h => h); go_simp; (try with_reducible rfl))); (try simp only [Act.put, zF, zG, zH]))
    (refine TD.load (v := ?v31) (p := ?p31) (Mod.refl _ _) (by simp only [zA, zB, zC]; rfl) rfl ?hw31 rfl ?hx31 (fun wq hSq => ?hy31) ?hn31; (case hw31 => rfl); (case hx31 => (simp only [Act.eval, zD, zA, zB, zC, zE]; (try rfl))); (case hy31 => (have khq := hSq.at kh (fun h => h); have kp4q := hSq.at kp4 (fun h => h); have kp5q := hSq.at kp5 (fun h => h); go_simp; (try with_reducible rfl))); (try simp only [Act.put, zF, zG, zH]))
    (refine TD.load (v := ?v32) (p := ?p32) (Mod.refl _ _) (by simp only [zA, zB, zC]; rfl) rfl ?hw32 rfl ?hx32 (fun wq hSq => ?hy32) ?hn32; (case hw32 => rfl); (case hx32 => (simp only [Act.eval, zD, zA, zB, zC, zE]; (try rfl))); (case hy32 => (have khq := hSq.at kh (fun h => h); have kp4q := hSq.at kp4 (fun h => h); have kp5q := hSq.at kp5 (fun h => h); go_simp; (try with_reducible rfl))); (try simp only [Act.put, zF, zG, zH]))
    (refine TD.build (v := ?v33) (ps := ?p33) (by simp only [zA, zB, zC]; rfl) rfl ?hw33 rfl ?hx33 (fun w1 => ?hy33) ?hn33; (case hw33 => rfl); (case hx33 => (simp only [List.map_toArray, List.map_cons, List.map_nil, Act.eval, zD, zA, zB, zC, zE]; (try rfl))); (case hy33 => (rw [hbl]; (try with_reducible rfl))); (try simp only [Act.put, zF, zG, zH]))
    (refine TD.bslice (by simp only [zA, zB, zC]; rfl) rfl ?hw34 rfl rfl ?hx34 hbs (fun p18 hp18 => ?hn34); (case hw34 => rfl); (case hx34 => (simp only [List.map_toArray, List.map_cons, List.map_nil, Act.eval, zD, zA, zB, zC, zE]; (try rfl))); (try simp only [Act.put, zF, zG, zH]))
    refine TD.eff (by simp only [zA, zB, zC]; rfl) rfl (fun w3 hr => ?_)
    replace kh := hr.mod.at kh (fun h => h)
    replace kp4 := hr.mod.at kp4 (fun h => h)
    replace kp5 := hr.mod.at kp5 (fun h => h)
    have kp18 := hr.box p18 _ (by first | exact Bx.set_same _ _ _ | (simp only [Bx.set_same]; rfl)); dsimp only [Value.cells] at kp18; obtain ⟨gp18, kp18⟩ := kp18
    have m3 := hr.mod
    clear hr hbs hbl
    have hO3 := (HO.out.1.mod0 HM2.out).mod0 m3
    obtain ⟨v4, w4, hap, hO4, m4, hn4⟩ := SlOwn.append seenT (q := [(g, k)]) (c := 1) hO3 (SlAt.one kp18 (g, k) rfl (snr_size _)) (by have := HMM.out; have := HLL.out; simp only [List.length_singleton]; omega) (by decide) (Nat.zero_le _) 159
    have hne : ∀ i, (Value.slice a ll c).ownBlock = some i → ¬ i = h := fun i hi e => by
      obtain ⟨cur, hk⟩ := own_blk hO3 hi
      rw [e, kh] at hk
      cases hk
    replace kh := m4.at kh (fun e => hne h e rfl)
    have mF := ((HM2.out.mono (T := T) (fun _ _ h => h.elim)).then0 m3).then m4 (fun i _ e => HO.out.2.2 i e)
    have HF := Lib.hid (And.intro hO4 (And.intro mF (And.intro hn4 hne)))
    have HS3 := Lib.hid (Nat.le_trans HM2.out.size m3.size)
    obtain ⟨v5, hv5⟩ : ∃ v5, v4 = v5 := ⟨_, rfl⟩
    obtain ⟨a4, c4, hv4, _⟩ := hO4.at seenT
    rw [hv4] at hap
    have HV4 := Lib.hid hv4
    clear hO3 hO4 m4 mF hn4 hne m3 m2 hv5 hv4
    (refine eff_append (by simp only [zA, zB, zC]; rfl) ?hw36 rfl ?hx36 ?hz36 hap ?hn36; (case hw36 => rfl); (case hx36 => (simp only [Act.eval, zD, zA, zB, zC, zE]; (try rfl))); (case hz36 => (simp only [Act.eval, zD, zA, zB, zC, zE]; (try rfl))); (try simp only [Act.put, zF, zG, zH]))
    (refine TE.val0 (v := ?v37) (by simp only [zA, zB, zC]; rfl) ?hw37 (fun w1 => ?hy37) ?hn37; (case hw37 => rfl); (case hy37 => (go_simp; (try with_reducible rfl))); (try simp only [Act.put, zF, zG, zH]))
    (refine TE.val0 (v := ?v38) (by simp only [zA, zB, zC]; rfl) ?hw38 (fun w1 => ?hy38) ?hn38; (case hw38 => rfl); (case hy38 => (go_simp; (try with_reducible rfl))); (try simp only [Act.put, zF, zG, zH]))
    refine TE.step (by simp only [zA, zB, zC]; rfl) rfl ?_
    (refine eff_store (X := ?X39) (Y := ?Y39) (w' := ?w39) (by simp only [zA, zB, zC]; rfl) ?hw39 rfl ?hx39 ?hz39 ?hy39 ?hn39; (case hw39 => rfl); (case hx39 => (simp only [Act.eval, zD, zA, zB, zC, zE]; (try rfl))); (case hz39 => (simp only [Act.eval, zD, zA, zB, zC, zE]; (try rfl))); (case hy39 => (go_simp; (try with_reducible rfl))))
    (first | refine TE.nil_set kh (fun wn kh mS => ?_) | refine TE.nil_setCell kh (fun wn kh mS => ?_))
    (try simp only [Array.setIfInBounds, zF, zG, zH] at kh)
    go_wp2_with fail
    go_ret
    replace kh : wn.heap[h]? = some (.cells #[v4] 161 (0, 0)) := by rw [HV4.out, List.length_append]; exact kh
    have hne4 : ∀ i, v4.ownBlock = some i → ¬ i = h := fun i hi e => by
      rcases HF.out.2.2.1 with e2 | e2
      · rw [e2] at hi
        exact HF.out.2.2.2 i hi e
      · rw [e2] at hi
        cases hi
        have h1 := HT.out h HO.out.2.1
        have h2 := HS3.out
        omega
    refine ⟨⟨_, rfl⟩, ⟨M ++ [(g, k)], by simp [HLL.out], v4, kh, HF.out.1.mod mS hne4, .inl HO.out.2.1, fun i hi => ?_⟩, HF.out.2.1.then mS (fun i _ e => by rw [e]; exact HO.out.2.1)⟩
    rcases HF.out.2.2.1 with e2 | e2
    · rw [e2] at hi
      exact .inl (HO.out.2.2 i hi)
    · have hlt := (HF.out.1.lt i hi).2
      rw [e2] at hi
      cases hi
      exact .inr ⟨HS3.out, Nat.lt_of_lt_of_le hlt mS.size⟩
end Go.Proofs.Ytofpnmoeimjnnaa
namespace Go.Proofs.Ytofpnmoeimjnnaa
open Go.RowKit
open Go.ChangeMaps (setBlock)
set_option linter.unusedSimpArgs false
set_option linter.unusedVariables false
attribute [local go_sem ↓] wlKey ldKey stKey wlAcct ldAcct stAcct wlHold ldHold stHold eqKey1 eqAcct eqHold
attribute [local go_sem] eqMap neMap av_size av_c av_s av_c' av_s' av_o av_all av_one hd_size hd_key hd_acct hd_all hd_one zKey_size zAcct_size zHold_size cell_blk frozen_blk kc_ext one_int one_bool one_ptr one_slice one_map kc_one kc_one0 kc_size Value.cells
def PutPost (w : World) (p b : Nat) (m : List (Key × Acct)) (w' : World) : Prop := StAt w' p b m ∧ Mod (fun i => i = b) w w'
set_option maxHeartbeats 1600000 in
theorem put_zero (p b : Nat) (m : List (Key × Acct)) (k : Key)  (w : World) (h : StAt w p b m)  : Calls Try.prog 54 #[.pointer (some ⟨p, 0, none⟩), .agg (kc k), .agg (av acct0)] w fun e w' => e = .returned (.int .i64 0) ∧ PutPost w p b (del k m) w' := by
  obtain ⟨kp, es, cl, kb, M⟩ := id h
  obtain ⟨lp, lb, hpb⟩ := h.lt
  have H := Lib.hid h
  clear h lp lb
  have hb0 := build0
  go_enter Try.func54, Try.ntmps54
  go_upto_region 0 with fail
  have Lkp := lt_size kp
  have Lkb := lt_size kb
  refine wp_pass0 (C := fun _ _ _ => False) (κ := fun i => [3, 3, 0].getD i 0) [0, 1, 2] (by kernel_rfl) (by kernel_rfl) (fun _ _ d _ _ h => by cases d <;> first | exact h | exact absurd h (hP _ _ _)) ?_
  (refine TD.box (v := ?v1) (by simp only [zA, zB, zC]; rfl) rfl ?hw1 rfl rfl ?hx1 (fun p4 hp4 => ?hn1); (case hw1 => rfl); (case hx1 => (simp only [Act.eval, zD, zA, zB, zC, zE]; (try rfl))); (try simp only [Act.put, zF, zG, zH]))
  (refine TD.box (v := ?v2) (by simp only [zA, zB, zC]; rfl) rfl ?hw2 rfl rfl ?hx2 (fun p5 hp5 => ?hn2); (case hw2 => rfl); (case hx2 => (simp only [Act.eval, zD, zA, zB, zC, zE]; (try rfl))); (try simp only [Act.put, zF, zG, zH]))
  obtain ⟨ne_p5_p4, hp5⟩ := Bx.set_none hp5
  (refine TD.val0 (v := ?v3) (by simp only [zA, zB, zC]; rfl) rfl ?hw3 (fun w1 => ?hy3) ?hn3; (case hw3 => rfl); (case hy3 => (go_simp; (try with_reducible rfl))); (try simp only [Act.put, zF, zG, zH]))
  refine TD.nil (fun w1 hr => ?_)
  replace kp := hr.mod.at kp (fun h => h)
  replace kb := hr.mod.at kb (fun h => h)
  have kp4 := hr.box p4 _ (by first | exact Bx.set_same _ _ _ | (simp only [Bx.set_ne _ (Ne.symm ne_p5_p4), Bx.set_ne _ ne_p5_p4, Bx.set_same]; rfl)); dsimp only [Value.cells] at kp4; obtain ⟨gp4, kp4⟩ := kp4
  have kp5 := hr.box p5 _ (by first | exact Bx.set_same _ _ _ | (simp only [Bx.set_ne _ (Ne.symm ne_p5_p4), Bx.set_ne _ ne_p5_p4, Bx.set_same]; rfl)); dsimp only [Value.cells] at kp5; obtain ⟨gp5, kp5⟩ := kp5
  have m1 := hr.mod
  go_wp2_with fail
  go_at_call 83
  refine (there_c p b m _ (H.out.mod0 m1)).mono ?_
  rintro e w2 ⟨rfl, rfl⟩
  go_upto_region 3 with fail
  have hne4 : p4 ≠ b := ne_of_obj kp4 kb (by simp)
  have hne5 : p5 ≠ b := ne_of_obj kp5 kb (by simp)
  have Lkp := lt_size kp
  have Lkb := lt_size kb
  have Lkp4 := lt_size kp4
  have Lkp5 := lt_size kp5
  refine wp_pass0 (C := fun _ _ _ => False) (κ := fun i => [1, 0, 0].getD i 0) [0, 1, 2] (by kernel_rfl) (by kernel_rfl) (fun _ _ d _ _ h => by cases d <;> first | exact h | exact absurd h (hP _ _ _)) ?_
  (refine TD.load (v := ?v4) (p := ?p4) (Mod.refl _ _) (by simp only [zA, zB, zC]; rfl) rfl ?hw4 rfl ?hx4 (fun wq hSq => ?hy4) ?hn4; (case hw4 => rfl); (case hx4 => (simp only [Act.eval, zD, zA, zB, zC, zE]; (try rfl))); (case hy4 => (have kpq := hSq.at kp (fun h => h); have kbq := hSq.at kb (fun h => h); have kp4q := hSq.at kp4 (fun h => h); have kp5q := hSq.at kp5 (fun h => h); go_simp; (try with_reducible rfl))); (try simp only [Act.put, zF, zG, zH]))
  (refine TD.build (v := ?v5) (ps := ?p5) (by simp only [zA, zB, zC]; rfl) rfl ?hw5 rfl ?hx5 (fun w1 => ?hy5) ?hn5; (case hw5 => rfl); (case hx5 => (simp only [List.map_toArray, List.map_cons, List.map_nil, Act.eval, zD, zA, zB, zC, zE]; (try rfl))); (case hy5 => (rw [hb0]; (try with_reducible rfl))); (try simp only [Act.put, zF, zG, zH]))
  (refine TD.val0 (v := ?v6) (by simp only [zA, zB, zC]; rfl) rfl ?hw6 (fun w1 => ?hy6) ?hn6; (case hw6 => rfl); (case hy6 => (go_simp; (try with_reducible rfl))); (try simp only [Act.put, zF, zG, zH]))
  refine TD.nil (fun w3 hr => ?_)
  replace kp := hr.mod.at kp (fun h => h)
  replace kb := hr.mod.at kb (fun h => h)
  replace kp4 := hr.mod.at kp4 (fun h => h)
  replace kp5 := hr.mod.at kp5 (fun h => h)
  have m3 := m1.then0 hr.mod
  clear hb0
  go_upto_region 4 with fail
  have Lkp := lt_size kp
  have Lkp4 := lt_size kp4
  have Lkp5 := lt_size kp5
  have Lkb := lt_size kb
  refine wp_pass (C := fun _ _ _ => False) (κ := fun i => [0, 0, 0, 1, 1, 5].getD i 0) [0, 1, 2, 3, 4, 5] (by kernel_rfl) (by kernel_rfl) (fun _ _ d _ _ h => by cases d <;> first | exact h | exact absurd h (hP _ _ _)) ?_
  (refine TD.val0 (v := ?v7) (by simp only [zA, zB, zC]; rfl) rfl ?hw7 (fun w1 => ?hy7) ?hn7; (case hw7 => rfl); (case hy7 => (go_simp; (try with_reducible rfl))); (try simp only [Act.put, zF, zG, zH]))
  (refine TD.val0 (v := ?v8) (by simp only [zA, zB, zC]; rfl) rfl ?hw8 (fun w1 => ?hy8) ?hn8; (case hw8 => rfl); (case hy8 => (go_simp; (try with_reducible rfl))); (try simp only [Act.put, zF, zG, zH]))
  (refine TD.val0 (v := ?v9) (by simp only [zA, zB, zC]; rfl) rfl ?hw9 (fun w1 => ?hy9) ?hn9; (case hw9 => rfl); (case hy9 => (go_simp; (try with_reducible rfl))); (try simp only [Act.put, zF, zG, zH]))
  (refine TD.load (v := ?v10) (p := ?p10) (Mod.refl _ _) (by simp only [zA, zB, zC]; rfl) rfl ?hw10 rfl ?hx10 (fun wq hSq => ?hy10) ?hn10; (case hw10 => rfl); (case hx10 => (simp only [Act.eval, zD, zA, zB, zC, zE]; (try rfl))); (case hy10 => (have kpq := hSq.at kp (fun h => h); have kp4q := hSq.at kp4 (fun h => h); have kp5q := hSq.at kp5 (fun h => h); have kbq := hSq.at kb (fun h => h); go_simp; (try with_reducible rfl))); (try simp only [Act.put, zF, zG, zH]))
  (refine TD.load (v := ?v11) (p := ?p11) (Mod.refl _ _) (by simp only [zA, zB, zC]; rfl) rfl ?hw11 rfl ?hx11 (fun wq hSq => ?hy11) ?hn11; (case hw11 => rfl); (case hx11 => (simp only [Act.eval, zD, zA, zB, zC, zE]; (try rfl))); (case hy11 => (have kpq := hSq.at kp (fun h => h); have kp4q := hSq.at kp4 (fun h => h); have kp5q := hSq.at kp5 (fun h => h); have kbq := hSq.at kb (fun h => h); go_simp; (try with_reducible rfl))); (try simp only [Act.put, zF, zG, zH]))
  refine TD.eff (by simp only [zA, zB, zC]; rfl) rfl (fun wE hr => ?_)
  replace kp := hr.mod.at0 kp
  replace kp4 := hr.mod.at0 kp4
  replace kp5 := hr.mod.at0 kp5
  replace kb := hr.mod.at0 kb
  have mE := hr.mod
  obtain ⟨es12, hrun12, Mkb⟩ := M.delete (ty := _) keyT Try.underlying141 wE kb k
  (refine eff_delete (X := ?X12) (Y := ?Y12) (v := ?v12) (w' := ?w12) (by simp only [zA, zB, zC]; rfl) ?hw12 rfl ?hx12 ?hz12 ?hy12 ?hn12; (case hw12 => rfl); (case hx12 => (simp only [Act.eval, zD, zA, zB, zC, zE]; (try rfl))); (case hz12 => (simp only [Act.eval, zD, zA, zB, zC, zE]; (try rfl))); (case hy12 => exact hrun12))
  (first | refine TE.nil_set kb (fun w4 kb mS => ?_) | refine TE.nil_setCell kb (fun w4 kb mS => ?_))
  (try simp only [Array.setIfInBounds, zF, zG, zH] at kb)
  replace kp := mS.at_ne kp (by omega)
  replace kp4 := mS.at_ne kp4 (by omega)
  replace kp5 := mS.at_ne kp5 (by omega)
  have m4 := (m3.mono (T := fun i => i = b) (fun _ _ h => h.elim)).then (mE.mono (T := fun i => i = b) (fun _ _ h => h.elim)) (fun _ _ h => h)
  have m5 := m4.then mS (fun _ _ h => h)
  go_wp2_with fail
  go_ret
  exact ⟨rfl, ⟨kp, _, _, kb, Mkb⟩, m5⟩
set_option maxHeartbeats 1600000 in
theorem put_some (p b : Nat) (m : List (Key × Acct)) (k : Key) (a : Acct) (w : World) (h : StAt w p b m) (ha : ¬ a = acct0) : Calls Try.prog 54 #[.pointer (some ⟨p, 0, none⟩), .agg (kc k), .agg (av a)] w fun e w' => e = .returned (.int .i64 0) ∧ PutPost w p b (put k a m) w' := by
  obtain ⟨kp, es, cl, kb, M⟩ := id h
  obtain ⟨lp, lb, hpb⟩ := h.lt
  have H := Lib.hid h
  clear h lp lb
  have hb0 := build0
  go_enter Try.func54, Try.ntmps54
  go_upto_region 0 with fail
  have Lkp := lt_size kp
  have Lkb := lt_size kb
  refine wp_pass0 (C := fun _ _ _ => False) (κ := fun i => [3, 3, 0].getD i 0) [0, 1, 2] (by kernel_rfl) (by kernel_rfl) (fun _ _ d _ _ h => by cases d <;> first | exact h | exact absurd h (hP _ _ _)) ?_
  (refine TD.box (v := ?v13) (by simp only [zA, zB, zC]; rfl) rfl ?hw13 rfl rfl ?hx13 (fun p4 hp4 => ?hn13); (case hw13 => rfl); (case hx13 => (simp only [Act.eval, zD, zA, zB, zC, zE]; (try rfl))); (try simp only [Act.put, zF, zG, zH]))
  (refine TD.box (v := ?v14) (by simp only [zA, zB, zC]; rfl) rfl ?hw14 rfl rfl ?hx14 (fun p5 hp5 => ?hn14); (case hw14 => rfl); (case hx14 => (simp only [Act.eval, zD, zA, zB, zC, zE]; (try rfl))); (try simp only [Act.put, zF, zG, zH]))
  obtain ⟨ne_p5_p4, hp5⟩ := Bx.set_none hp5
  (refine TD.val0 (v := ?v15) (by simp only [zA, zB, zC]; rfl) rfl ?hw15 (fun w1 => ?hy15) ?hn15; (case hw15 => rfl); (case hy15 => (go_simp; (try with_reducible rfl))); (try simp only [Act.put, zF, zG, zH]))
  refine TD.nil (fun w1 hr => ?_)
  replace kp := hr.mod.at kp (fun h => h)
  replace kb := hr.mod.at kb (fun h => h)
  have kp4 := hr.box p4 _ (by first | exact Bx.set_same _ _ _ | (simp only [Bx.set_ne _ (Ne.symm ne_p5_p4), Bx.set_ne _ ne_p5_p4, Bx.set_same]; rfl)); dsimp only [Value.cells] at kp4; obtain ⟨gp4, kp4⟩ := kp4
  have kp5 := hr.box p5 _ (by first | exact Bx.set_same _ _ _ | (simp only [Bx.set_ne _ (Ne.symm ne_p5_p4), Bx.set_ne _ ne_p5_p4, Bx.set_same]; rfl)); dsimp only [Value.cells] at kp5; obtain ⟨gp5, kp5⟩ := kp5
  have m1 := hr.mod
  go_wp2_with fail
  go_at_call 83
  refine (there_c p b m _ (H.out.mod0 m1)).mono ?_
  rintro e w2 ⟨rfl, rfl⟩
  go_upto_region 3 with fail
  have hne4 : p4 ≠ b := ne_of_obj kp4 kb (by simp)
  have hne5 : p5 ≠ b := ne_of_obj kp5 kb (by simp)
  have Lkp := lt_size kp
  have Lkb := lt_size kb
  have Lkp4 := lt_size kp4
  have Lkp5 := lt_size kp5
  refine wp_pass0 (C := fun _ _ _ => False) (κ := fun i => [1, 0, 0].getD i 0) [0, 1, 2] (by kernel_rfl) (by kernel_rfl) (fun _ _ d _ _ h => by cases d <;> first | exact h | exact absurd h (hP _ _ _)) ?_
  (refine TD.load (v := ?v16) (p := ?p16) (Mod.refl _ _) (by simp only [zA, zB, zC]; rfl) rfl ?hw16 rfl ?hx16 (fun wq hSq => ?hy16) ?hn16; (case hw16 => rfl); (case hx16 => (simp only [Act.eval, zD, zA, zB, zC, zE]; (try rfl))); (case hy16 => (have kpq := hSq.at kp (fun h => h); have kbq := hSq.at kb (fun h => h); have kp4q := hSq.at kp4 (fun h => h); have kp5q := hSq.at kp5 (fun h => h); go_simp; (try with_reducible rfl))); (try simp only [Act.put, zF, zG, zH]))
  (refine TD.build (v := ?v17) (ps := ?p17) (by simp only [zA, zB, zC]; rfl) rfl ?hw17 rfl ?hx17 (fun w1 => ?hy17) ?hn17; (case hw17 => rfl); (case hx17 => (simp only [List.map_toArray, List.map_cons, List.map_nil, Act.eval, zD, zA, zB, zC, zE]; (try rfl))); (case hy17 => (rw [hb0]; (try with_reducible rfl))); (try simp only [Act.put, zF, zG, zH]))
  (refine TD.val0 (v := ?v18) (by simp only [zA, zB, zC]; rfl) rfl ?hw18 (fun w1 => ?hy18) ?hn18; (case hw18 => rfl); (case hy18 => (go_simp; (try with_reducible rfl))); (try simp only [Act.put, zF, zG, zH]))
  refine TD.nil (fun w3 hr => ?_)
  replace kp := hr.mod.at kp (fun h => h)
  replace kb := hr.mod.at kb (fun h => h)
  replace kp4 := hr.mod.at kp4 (fun h => h)
  replace kp5 := hr.mod.at kp5 (fun h => h)
  have m3 := m1.then0 hr.mod
  clear hb0
  go_upto_region 6 with fail
  have Lkp := lt_size kp
  have Lkp4 := lt_size kp4
  have Lkp5 := lt_size kp5
  have Lkb := lt_size kb
  refine wp_pass (C := fun _ _ _ => False) (κ := fun i => [0, 0, 0, 1, 1, 1, 5].getD i 0) [0, 1, 2, 3, 4, 5, 6] (by kernel_rfl) (by kernel_rfl) (fun _ _ d _ _ h => by cases d <;> first | exact h | exact absurd h (hP _ _ _)) ?_
  (refine TD.val0 (v := ?v19) (by simp only [zA, zB, zC]; rfl) rfl ?hw19 (fun w1 => ?hy19) ?hn19; (case hw19 => rfl); (case hy19 => (go_simp; (try with_reducible rfl))); (try simp only [Act.put, zF, zG, zH]))
  (refine TD.val0 (v := ?v20) (by simp only [zA, zB, zC]; rfl) rfl ?hw20 (fun w1 => ?hy20) ?hn20; (case hw20 => rfl); (case hy20 => (go_simp; (try with_reducible rfl))); (try simp only [Act.put, zF, zG, zH]))
  (refine TD.val0 (v := ?v21) (by simp only [zA, zB, zC]; rfl) rfl ?hw21 (fun w1 => ?hy21) ?hn21; (case hw21 => rfl); (case hy21 => (go_simp; (try with_reducible rfl))); (try simp only [Act.put, zF, zG, zH]))
  (refine TD.load (v := ?v22) (p := ?p22) (Mod.refl _ _) (by simp only [zA, zB, zC]; rfl) rfl ?hw22 rfl ?hx22 (fun wq hSq => ?hy22) ?hn22; (case hw22 => rfl); (case hx22 => (simp only [Act.eval, zD, zA, zB, zC, zE]; (try rfl))); (case hy22 => (have kpq := hSq.at kp (fun h => h); have kp4q := hSq.at kp4 (fun h => h); have kp5q := hSq.at kp5 (fun h => h); have kbq := hSq.at kb (fun h => h); go_simp; (try with_reducible rfl))); (try simp only [Act.put, zF, zG, zH]))
  (refine TD.load (v := ?v23) (p := ?p23) (Mod.refl _ _) (by simp only [zA, zB, zC]; rfl) rfl ?hw23 rfl ?hx23 (fun wq hSq => ?hy23) ?hn23; (case hw23 => rfl); (case hx23 => (simp only [Act.eval, zD, zA, zB, zC, zE]; (try rfl))); (case hy23 => (have kpq := hSq.at kp (fun h => h); have kp4q := hSq.at kp4 (fun h => h); have kp5q := hSq.at kp5 (fun h => h); have kbq := hSq.at kb (fun h => h); go_simp; (try with_reducible rfl))); (try simp only [Act.put, zF, zG, zH]))
  (refine TD.load (v := ?v24) (p := ?p24) (Mod.refl _ _) (by simp only [zA, zB, zC]; rfl) rfl ?hw24 rfl ?hx24 (fun wq hSq => ?hy24) ?hn24; (case hw24 => rfl); (case hx24 => (simp only [Act.eval, zD, zA, zB, zC, zE]; (try rfl))); (case hy24 => (have kpq := hSq.at kp (fun h => h); have kp4q := hSq.at kp4 (fun h => h); have kp5q := hSq.at kp5 (fun h => h); have kbq := hSq.at kb (fun h => h); go_simp; (try with_reducible rfl))); (try simp only [Act.put, zF, zG, zH]))
  refine TD.eff (by simp only [zA, zB, zC]; rfl) rfl (fun wE hr => ?_)
  replace kp := hr.mod.at0 kp
  replace kp4 := hr.mod.at0 kp4
  replace kp5 := hr.mod.at0 kp5
  replace kb := hr.mod.at0 kb
  have mE := hr.mod
  obtain ⟨es25, cl25, hrun25, Mkb⟩ := M.update keyT Try.underlying141 wE kb k a
  (refine eff_update (X := ?X25) (Y := ?Y25) (Z := ?Z25) (w' := ?w25) (by simp only [zA, zB, zC]; rfl) ?hw25 rfl ?hx25 ?hz25 ?hv25 ?hy25 ?hn25; (case hw25 => rfl); (case hx25 => (simp only [Act.eval, zD, zA, zB, zC, zE]; (try rfl))); (case hz25 => (simp only [Act.eval, zD, zA, zB, zC, zE]; (try rfl))); (case hv25 => (simp only [Act.eval, zD, zA, zB, zC, zE]; (try rfl))); (case hy25 => exact hrun25))
  (first | refine TE.nil_set kb (fun w4 kb mS => ?_) | refine TE.nil_setCell kb (fun w4 kb mS => ?_))
  (try simp only [Array.setIfInBounds, zF, zG, zH] at kb)
  replace kp := mS.at_ne kp (by omega)
  replace kp4 := mS.at_ne kp4 (by omega)
  replace kp5 := mS.at_ne kp5 (by omega)
  have m4 := (m3.mono (T := fun i => i = b) (fun _ _ h => h.elim)).then (mE.mono (T := fun i => i = b) (fun _ _ h => h.elim)) (fun _ _ h => h)
  have m5 := m4.then mS (fun _ _ h => h)
  go_wp2_with fail
  go_ret
  exact ⟨rfl, ⟨kp, _, _, kb, Mkb⟩, m5⟩
theorem put_c (p b : Nat) (m : List (Key × Acct)) (k : Key) (a : Acct) (w : World) (h : StAt w p b m) : Calls Try.prog 54 #[.pointer (some ⟨p, 0, none⟩), .agg (kc k), .agg (av a)] w fun e w' => e = .returned (.int .i64 0) ∧ PutPost w p b (putA m k a) w' := by
  by_cases ha : a = acct0
  · subst ha
    rw [show putA m k acct0 = del k m from if_pos rfl]
    exact put_zero p b m k w h
  · rw [show putA m k a = put k a m from if_neg ha]
    exact put_some p b m k a w h ha
end Go.Proofs.Ytofpnmoeimjnnaa
namespace Go.Proofs.Ytofpnmoeimjnnaa
open Go.RowKit
open Go.ChangeMaps (setBlock)
set_option linter.unusedSimpArgs false
set_option linter.unusedVariables false
attribute [local go_sem ↓] wlKey ldKey stKey wlAcct ldAcct stAcct wlHold ldHold stHold wlHash ldHash stHash wlSig ldSig stSig wlLim ldLim stLim wlRdy ldRdy stRdy wlOut ldOut stOut wlTd ldTd stTd wlTx ldTx stTx eqKey1
attribute [local go_sem] eqMap neMap av_size av_all av_one hd_size hd_key hd_acct hd_all hd_one zKey_size zAcct_size zHold_size zHash_size zSg_size zLim_size zRdy_size zOut_size zTried_size zTx_size cell_blk frozen_blk kc_ext one_int one_bool one_ptr one_slice one_map kc_one kc_one0 kc_size sgc_size sgc_ext sgc_one0 sgc_one' rdr_size rdr_all rdr_one rdr_tx rdr_rec rdr0 rdr1 rdr6 rdr39 rdr40 rdr41 rdr0' rdr1' rdr6' rdr39' rdr40' rdr41' ocr_size ocr_all ocr_one ocr2 ocr3 ocr4 ocr5 ocr2' ocr3' ocr4' ocr5' tdr_size tdr_all tdr_one tdr_r tdr_o tdr_tx tdr_rec tdr0 tdr1 tdr41 tdr50 tdr51 tdr52 tdr53 tdr0' tdr1' tdr41' tdr50' tdr51' tdr52' tdr53' txr_size txr_all txr_one txr0 txr38 txr39 txr0' txr38' txr39' Value.cells
attribute [local go_sem ↓] wlKey ldKey stKey wlAcct ldAcct stAcct wlHold ldHold stHold eqKey1 eqAcct eqHold
attribute [local go_sem] eqMap neMap av_size av_c av_s av_c' av_s' av_o av_all av_one hd_size hd_key hd_acct hd_all hd_one zKey_size zAcct_size zHold_size cell_blk frozen_blk kc_ext one_int one_bool one_ptr one_slice one_map kc_one kc_one0 kc_size Value.cells
def klt (a b : Key) : Bool := Op.bytesLess a.l b.l
theorem klt_iff (a b : Key) : klt a b = true ↔ a.l < b.l := by
  unfold klt
  rw [bytesLess_eq]
  simp
theorem klt_irrefl (a : Key) : klt a a = false := by
  rw [Bool.eq_false_iff, ne_eq, klt_iff]
  exact List.lt_irrefl _
theorem klt_trans {a b c : Key} (h : klt a b = true) (k : klt b c = true) : klt a c = true := by
  rw [klt_iff] at *
  exact List.lt_trans h k
theorem klt_total (a b : Key) : klt a b = true ∨ a = b ∨ klt b a = true := by
  rw [klt_iff, klt_iff]
  by_cases h : a.l < b.l
  · exact .inl h
  · by_cases h2 : b.l < a.l
    · exact .inr (.inr h2)
    · exact .inr (.inl (Key.ext (List.le_antisymm (List.not_lt.1 h2) (List.not_lt.1 h))))
def bytesOfL (l : List UInt8) : ByteArray := ⟨l.toArray⟩
theorem hd_part {C : Array Value} {b : Nat} {x : Hold} (h : C.extract b (b + 66) = hd x) : C.extract b (b + 32) = kc x.k ∧ C.extract (b + 32) (b + 32 + 34) = av x.a := by
  have h1 := congrArg (fun A : Array Value => A.extract 0 32) h
  have h2 := congrArg (fun A : Array Value => A.extract 32 66) h
  simp only [Array.extract_extract, hd_key, hd_acct] at h1 h2
  rw [show min (b + 32) (b + 66) = b + 32 by omega, Nat.add_zero] at h1
  rw [show min (b + 66) (b + 66) = b + 32 + 34 by omega] at h2
  exact ⟨h1, h2⟩
theorem bytesOfL_list (l : List UInt8) : (bytesOfL l).toList = l := by
  rw [show (bytesOfL l).toList = (bytesOfL l).data.toList from Lib.toList_data _]
  rfl
theorem convKey {w : World} {b o : Nat} {C : Array Value} {U : TypeId} {fr : Nat × Nat} {k : Key} (hb : w.heap[b]? = some (.cells C U fr)) (he : C.extract o (o + 32) = kc k) :
    (convert 45 9 (.slice (some ⟨b, o, none⟩) 32 32)).run Try.prog w = .ok (.string (bytesOfL k.l)) w := by
  have := run_convert_bytes_back (P := Try.prog) w 45 9 5 ⟨b, o, none⟩ 32 k.l Try.underlying45 Try.underlying5 Try.underlying9 (fun j hj => by
    have h2 := cell_in hb he (j := j) (v := bc (k.l[j])) (by simp [kc, hj])
    have hadd : (⟨b, o, none⟩ : Addr).add j = ⟨b, o + j, none⟩ := by
      unfold Addr.add
      split <;> simp_all
    rw [hadd]
    exact h2)
  rw [k.h] at this
  exact this
theorem oneNew (w : World) (h : Hold) : SlAt hd 66 (w.alloc (.cells (hd h) 155)) (some ⟨w.heap.size, 0, none⟩) [h] := by
  have hb := heap_alloc_new w (.cells (hd h) 155)
  exact SlAt.one hb h rfl (hd_size h)
set_option maxRecDepth 20000 in
theorem bsHold (h : Hold) (w : World) : (Instr.buildSlice 22 1 #[(0, .agg (hd h))]).run Try.prog w = .ok (.slice (some ⟨w.heap.size, 0, none⟩) 1 1) (w.alloc (.cells (hd h) 155)) := by
  obtain ⟨i0, z, hi, hz, hz1, hz2, hz3⟩ := holdT.info
  refine run_buildSlice w _ _ 1 _ _ i0 _ Try.underlying22 hi hz (by rw [hz1]; omega) (by rw [hz1]; omega) ?_
  rw [hz1]
  show Instr.fill _ _ [(0, Value.agg (hd h))] = _
  rw [fill_cons (off := 0) (n := 66) rfl (show ((Value.agg (hd h)).cells).size = 66 from hd_size _) (by simp)]
  show some (wr _ 0 _) = _
  rw [wr_whole _ _ (by simp [Value.cells, hd_size])]
  rfl
def RAt (w : World) (r : Nat) (L : List Hold) : Prop := ∃ v, w.heap[r]? = some (.cells #[v] 150 (0, 0)) ∧ SlOwn hd 66 155 w 0 v L
theorem own_cells {w : World} {base : Nat} {v : Value} {l : List Hold} {k : Nat} (h : SlOwn hd 66 155 w base v l) (hk : v.ownBlock = some k) : ∃ cur, w.heap[k]? = some (.cells cur 155 (0, 0)) := by
  rcases h.2 with ⟨rfl, _⟩ | ⟨g, cap, cur, rfl, _, hg, _⟩
  · cases hk
  · cases hk
    exact ⟨cur, hg⟩
def NoHold (w : World) (S : Nat → Prop) : Prop := ∀ i, S i → ∀ cur, w.heap[i]? ≠ some (.cells cur 155 (0, 0))
theorem RAt.mod {w w' : World} {r : Nat} {L : List Hold} {S : Nat → Prop} (h : RAt w r L) (hm : Mod S w w') (hr : ¬ S r) (hS : NoHold w S) : RAt w' r L := by
  obtain ⟨v, k, hO⟩ := h
  exact ⟨v, hm.at k hr, hO.mod hm (fun b hb hs => by
    obtain ⟨cur, hc⟩ := own_cells hO hb
    exact hS b hs cur hc)⟩
theorem RAt.mod0 {w w' : World} {r : Nat} {L : List Hold} (h : RAt w r L) (hm : Mod (fun _ => False) w w') : RAt w' r L := h.mod hm (fun h => h) (fun _ h => h.elim)
theorem RAt.sl {w : World} {r : Nat} {L : List Hold} (h : RAt w r L) : ∃ a c, w.heap[r]? = some (.cells #[.slice a L.length c] 150 (0, 0)) ∧ SlAt hd 66 w a L := by
  obtain ⟨v, k, hO⟩ := h
  obtain ⟨a, c, rfl, hs, _⟩ := hO.at holdT
  exact ⟨a, c, k, hs⟩
theorem SlOwn.base0 {w : World} {base : Nat} {v : Value} {l : List Hold} (h : SlOwn hd 66 155 w base v l) : SlOwn hd 66 155 w 0 v l := by
  refine ⟨h.1, ?_⟩
  rcases h.2 with h | ⟨g, cap, cur, e, hb, r⟩
  · exact .inl h
  · exact .inr ⟨g, cap, cur, e, Nat.zero_le _, r⟩
def rputL (k : Key) (a : Acct) : Bool → List Hold → List Hold
  | d, [] => if d then [] else [⟨k, a⟩]
  | d, h :: r => (if !d && klt k h.k then [(⟨k, a⟩ : Hold)] else []) ++ ((if h.k = k then [] else [h]) ++ rputL k a (d || klt k h.k) r)
theorem sq_bld {P : Program} {ops : Array Oper} {Q : Exit → Act → World → Prop} {i : Nat} {r : List Nat} {a : Act} {o : Oper} {w : World} {v : Value} {T : TypeId} {ps : Array (Nat × Operand)} {qs : Array (Nat × Value)} (ho : ops[i]? = some o) (hw : Region.wanted o (yielded ops a.tmps) = true)
    (hop : o.op = .build T ps) (hps : ps.map (fun (i, x) => (i, a.eval x)) = qs) (hr : (Instr.build T qs).run P w = .ok v w) (h : wpOps P ops Q r (a.put o.dst v) w) : wpOps P ops Q (i :: r) a w :=
  sq_val ho hw (by subst hps; simp [execOp, hop, hr]) h
theorem bytes_gt {x k : Key} (h : klt k x = true) : Op.bytesLess (bytesOfL x.l).toList (bytesOfL k.l).toList = false ∧ ((bytesOfL x.l).toList == (bytesOfL k.l).toList) = false := by
  rw [bytesOfL_list, bytesOfL_list]
  refine ⟨?_, ?_⟩
  · rw [Bool.eq_false_iff]
    intro h2
    have h3 := klt_trans h (show klt x k = true from h2)
    rw [klt_irrefl] at h3
    cases h3
  · rw [beq_eq_false_iff_ne]
    intro e
    obtain rfl : x = k := Key.ext e
    rw [klt_irrefl] at h
    cases h
theorem bytes_eq (x : Key) : Op.bytesLess (bytesOfL x.l).toList (bytesOfL x.l).toList = false ∧ ((bytesOfL x.l).toList == (bytesOfL x.l).toList) = true := by
  rw [bytesOfL_list]
  exact ⟨klt_irrefl x, beq_self_eq_true _⟩
theorem bytes_lt {x k : Key} (h : klt x k = true) : Op.bytesLess (bytesOfL x.l).toList (bytesOfL k.l).toList = true ∧ ((bytesOfL x.l).toList == (bytesOfL k.l).toList) = false := by
  rw [bytesOfL_list, bytesOfL_list]
  refine ⟨h, ?_⟩
  rw [beq_eq_false_iff_ne]
  intro e
  obtain rfl : x = k := Key.ext e
  rw [klt_irrefl] at h
  cases h
theorem kc_conv (k : Key) {w : World} {b : Nat} {U : TypeId} {fr : Nat × Nat} (hb : w.heap[b]? = some (.cells (kc k) U fr)) : (convert 45 9 (.slice (some ⟨b, 0, none⟩) 32 32)).run Try.prog w = .ok (.string (bytesOfL k.l)) w :=
  convKey hb (by rw [Nat.zero_add]; exact kc_ext k)
theorem rput_step {k : Key} {a : Acct} {d : Bool} {L : List Hold} {i : Nat} {x : Hold} {O R : List Hold} (hx : L[i]? = some x) (h : O ++ rputL k a d (L.drop i) = R) :
    (O ++ ((if !d && klt k x.k then [(⟨k, a⟩ : Hold)] else []) ++ (if x.k = k then [] else [x]))) ++ rputL k a (d || klt k x.k) (L.drop (i + 1)) = R := by
  rw [← h, drop_cons hx]
  simp only [rputL, List.append_assoc]
set_option maxRecDepth 20000 in
set_option maxHeartbeats 3200000 in
theorem rput_c (r : Nat) (L : List Hold) (k : Key) (a : Acct) (w : World) (h : RAt w r L) (hL : L.length ≤ 400000) : Calls Try.prog 55 #[.pointer (some ⟨r, 0, none⟩), .agg (kc k), .agg (av a)] w fun e w' => e = .returned (.tuple #[]) ∧ RAt w' r (rputL k a (decide (a = acct0)) L) ∧ Mod (fun i => i = r) w w' := by
  obtain ⟨ad, c, kr, hs⟩ := h.sl
  clear h
  go_enter Try.func55, Try.ntmps55
  go_upto_region 0 with fail
  have Lkr := lt_size kr
  refine wp_pass0 (C := fun _ _ _ => False) (κ := fun i => [3, 3].getD i 0) [0, 1] (by kernel_rfl) (by kernel_rfl) (fun _ _ d _ _ h => by cases d <;> first | exact h | exact absurd h (hP _ _ _)) ?_
  (refine TD.box (v := ?v1) (by simp only [zA, zB, zC]; rfl) rfl ?hw1 rfl rfl ?hx1 (fun p4 hp4 => ?hn1); (case hw1 => rfl); (case hx1 => (simp only [Act.eval, zD, zA, zB, zC, zE]; (try rfl))); (try simp only [Act.put, zF, zG, zH]))
  (refine TD.box (v := ?v2) (by simp only [zA, zB, zC]; rfl) rfl ?hw2 rfl rfl ?hx2 (fun p5 hp5 => ?hn2); (case hw2 => rfl); (case hx2 => (simp only [Act.eval, zD, zA, zB, zC, zE]; (try rfl))); (try simp only [Act.put, zF, zG, zH]))
  obtain ⟨ne_p5_p4, hp5⟩ := Bx.set_none hp5
  refine TD.nil (fun w0 hr => ?_)
  replace kr := hr.mod.at kr (fun h => h)
  have kp4 := hr.box p4 _ (by first | exact Bx.set_same _ _ _ | (simp only [Bx.set_ne _ (Ne.symm ne_p5_p4), Bx.set_ne _ ne_p5_p4, Bx.set_same]; rfl)); dsimp only [Value.cells] at kp4; obtain ⟨gp4, kp4⟩ := kp4
  have kp5 := hr.box p5 _ (by first | exact Bx.set_same _ _ _ | (simp only [Bx.set_ne _ (Ne.symm ne_p5_p4), Bx.set_ne _ ne_p5_p4, Bx.set_same]; rfl)); dsimp only [Value.cells] at kp5; obtain ⟨gp5, kp5⟩ := kp5
  have m0 := hr.mod
  have hs0 := hs.mod0 hr.mod
  have hp4 := gp4
  have hp5 := gp5
  clear hs gp4 gp5
  have hb0 := build0
  go_upto_region 2 with fail
  have Lkr := lt_size kr
  have Lkp4 := lt_size kp4
  have Lkp5 := lt_size kp5
  refine wp_pass0 (C := fun _ _ _ => False) (κ := fun i => [1, 0, 0, 0].getD i 0) [0, 1, 2, 3] (by kernel_rfl) (by kernel_rfl) (fun _ _ d _ _ h => by cases d <;> first | exact h | exact absurd h (hP _ _ _)) ?_
  (refine TD.load (v := ?v3) (p := ?p3) (Mod.refl _ _) (by simp only [zA, zB, zC]; rfl) rfl ?hw3 rfl ?hx3 (fun wq hSq => ?hy3) ?hn3; (case hw3 => rfl); (case hx3 => (simp only [Act.eval, zD, zA, zB, zC, zE]; (try rfl))); (case hy3 => (have krq := hSq.at kr (fun h => h); have kp4q := hSq.at kp4 (fun h => h); have kp5q := hSq.at kp5 (fun h => h); go_simp; (try with_reducible rfl))); (try simp only [Act.put, zF, zG, zH]))
  (refine TD.build (v := ?v4) (ps := ?p4) (by simp only [zA, zB, zC]; rfl) rfl ?hw4 rfl ?hx4 (fun w1 => ?hy4) ?hn4; (case hw4 => rfl); (case hx4 => (simp only [List.map_toArray, List.map_cons, List.map_nil, Act.eval, zD, zA, zB, zC, zE]; (try rfl))); (case hy4 => (rw [hb0]; (try with_reducible rfl))); (try simp only [Act.put, zF, zG, zH]))
  (refine TD.val0 (v := ?v5) (by simp only [zA, zB, zC]; rfl) rfl ?hw5 (fun w1 => ?hy5) ?hn5; (case hw5 => rfl); (case hy5 => (go_simp; (try with_reducible rfl))); (try simp only [Act.put, zF, zG, zH]))
  (refine TD.val0 (v := ?v6) (by simp only [zA, zB, zC]; rfl) rfl ?hw6 (fun w1 => ?hy6) ?hn6; (case hw6 => rfl); (case hy6 => (go_simp; (try with_reducible rfl))); (try simp only [Act.put, zF, zG, zH]))
  refine TD.nil (fun w1 hr => ?_)
  replace kr := hr.mod.at kr (fun h => h)
  replace kp4 := hr.mod.at kp4 (fun h => h)
  replace kp5 := hr.mod.at kp5 (fun h => h)
  have m1 := m0.then0 hr.mod
  have hs1 := hs0.mod0 hr.mod
  clear hs0 hb0 m0
  generalize hd0 : decide (a = acct0) = d0 at *
  have HD0 := Lib.hid hd0
  clear hd0
  have HS := Lib.hid hs1
  have KR := Lib.hid kr
  have K4 := Lib.hid kp4
  have K5 := Lib.hid kp5
  clear hs1
  go_wp2_with fail
  go_loopw [6, 7, 8] (fun s6 s7 s8 ws => ∃ (i : Nat) (O : List Hold) (d : Bool), i ≤ L.length ∧ s8 = .int .i64 (i : Int) ∧ s7 = .bool d ∧ Hid (SlOwn hd 66 155 ws w1.heap.size s6 O) ∧ Hid (O ++ rputL k a d (L.drop i) = rputL k a d0 L) ∧ Hid (O.length ≤ i + i) ∧ Mod (fun _ => False) w1 ws) (fun _ _ s8 _ => L.length - (intOf s8).toNat)
  case atStart => exact ⟨0, [], d0, by omega, rfl, rfl, Lib.hid (SlOwn.nil _ _), Lib.hid (by simp), Lib.hid (by simp), Mod.refl _ _⟩
  case round =>
    obtain ⟨i, O, d, hi, rfl, rfl, HO, HE, HOL, hmm⟩ := hrel
    have kr := hmm.at0 kr
    have kp4 := hmm.at0 kp4
    have kp5 := hmm.at0 kp5
    have HB : Hid (w1.heap.size ≤ w1.heap.size) := Lib.hid (Nat.le_refl _)
    by_cases hlt : i < L.length
    · obtain ⟨x, hx⟩ : ∃ x, L[i]? = some x := ⟨_, List.getElem?_eq_getElem hlt⟩
      obtain ⟨g, o, C, U, fr, rfl, kl1, he, hle⟩ := HS.out.block hx
      have kl := hmm.at0 kl1
      have KL := Lib.hid kl1
      clear kl1
      have hxe := he
      obtain ⟨e1, e2⟩ := hd_part he
      have dq : o + i * 66 + 66 ≤ C.size := hle
      have d1 : o + i * 66 + 32 ≤ C.size := by omega
      have d2 : o + i * 66 + 32 + 34 ≤ C.size := by omega
      have HST := Lib.hid (rput_step hx HE.out)
      clear hx HE
      obtain ⟨xk, xa⟩ := x
      dsimp only at e1 e2 HST
      have hl2 : (O ++ [(⟨k, a⟩ : Hold)]).length + [(⟨xk, xa⟩ : Hold)].length ≤ 1000000 ∧ O.length + [(⟨k, a⟩ : Hold)].length ≤ 1000000 ∧ O.length + [(⟨xk, xa⟩ : Hold)].length ≤ 1000000 := by
        have := HOL.out
        simp only [List.length_append, List.length_cons, List.length_nil]
        omega
      have HL2 := Lib.hid hl2
      clear hl2
      have hcx : ∀ wq, Mod (fun _ => False) wr wq → (convert 45 9 (.slice (some ⟨g, o + i * 66, none⟩) 32 32)).run Try.prog wq = .ok (.string (bytesOfL xk.l)) wq := fun wq hq => convKey (hq.at0 kl) e1
      have hck : ∀ wq, Mod (fun _ => False) wr wq → (convert 45 9 (.slice (some ⟨p4, 0, none⟩) 32 32)).run Try.prog wq = .ok (.string (bytesOfL k.l)) wq := fun wq hq => kc_conv k (hq.at0 kp4)
      rcases (show (d = false ∧ klt k xk = true) ∨ ((d || klt k xk) = d ∧ (!d && klt k xk) = false) by cases d <;> cases klt k xk <;> simp) with ⟨rfl, hlt2⟩ | ⟨hor, hand⟩
      · obtain ⟨hA, hB⟩ := bytes_gt hlt2
        have HST2 : Hid ((O ++ [(⟨k, a⟩ : Hold)]) ++ [(⟨xk, xa⟩ : Hold)] ++ rputL k a true (L.drop (i + 1)) = rputL k a d0 L) := Lib.hid (by
          have h := HST.out
          have hneq : ¬ xk = k := fun e => by rw [e, klt_irrefl] at hlt2; cases hlt2
          simpa [hlt2, hneq] using h)
        have hne : decide (xk = k) = false := decide_eq_false (fun e => by rw [e, klt_irrefl] at hlt2; cases hlt2)
        clear HST hlt2
        generalize bytesOfL xk.l = bx at *
        generalize bytesOfL k.l = bk at *
        go_upto_region 6 with fail
        have Lkl := lt_size kl
        have Lkr := lt_size kr
        have Lkp4 := lt_size kp4
        have Lkp5 := lt_size kp5
        refine wp_pass (C := fun _ _ _ => False) (κ := fun i => [0, 0, 0, 0, 0, 0, 1, 0, 0, 0, 0, 1, 0, 1, 0, 0].getD i 0) [0, 1, 2, 3, 4, 5, 6, 7, 8, 9, 10, 11, 12, 13, 14, 15] (by kernel_rfl) (by kernel_rfl) (fun _ _ d _ _ h => by cases d <;> first | exact h | exact absurd h (hP _ _ _)) ?_
        (refine TD.val0 (v := ?v7) (by simp only [zA, zB, zC]; rfl) rfl ?hw7 (fun w1 => ?hy7) ?hn7; (case hw7 => rfl); (case hy7 => (go_simp; (try with_reducible rfl))); (try simp only [Act.put, zF, zG, zH]))
        (refine TD.val0 (v := ?v8) (by simp only [zA, zB, zC]; rfl) rfl ?hw8 (fun w1 => ?hy8) ?hn8; (case hw8 => rfl); (case hy8 => (go_simp; (try with_reducible rfl))); (try simp only [Act.put, zF, zG, zH]))
        (refine TD.val0 (v := ?v9) (by simp only [zA, zB, zC]; rfl) rfl ?hw9 (fun w1 => ?hy9) ?hn9; (case hw9 => rfl); (case hy9 => (go_simp; (try with_reducible rfl))); (try simp only [Act.put, zF, zG, zH]))
        (refine TD.val0 (v := ?v10) (by simp only [zA, zB, zC]; rfl) rfl ?hw10 (fun w1 => ?hy10) ?hn10; (case hw10 => rfl); (case hy10 => (go_simp; (try with_reducible rfl))); (try simp only [Act.put, zF, zG, zH]))
        (refine TD.val0 (v := ?v11) (by simp only [zA, zB, zC]; rfl) rfl ?hw11 (fun w1 => ?hy11) ?hn11; (case hw11 => rfl); (case hy11 => (go_simp; (try with_reducible rfl))); (try simp only [Act.put, zF, zG, zH]))
        (refine TD.val0 (v := ?v12) (by simp only [zA, zB, zC]; rfl) rfl ?hw12 (fun w1 => ?hy12) ?hn12; (case hw12 => rfl); (case hy12 => (go_simp; (try with_reducible rfl))); (try simp only [Act.put, zF, zG, zH]))
        (refine TD.load (v := ?v13) (p := ?p13) (Mod.refl _ _) (by simp only [zA, zB, zC]; rfl) rfl ?hw13 rfl ?hx13 (fun wq hSq => ?hy13) ?hn13; (case hw13 => rfl); (case hx13 => (simp only [Act.eval, zD, zA, zB, zC, zE]; (try rfl))); (case hy13 => (have klq := hSq.at kl (fun h => h); have krq := hSq.at kr (fun h => h); have kp4q := hSq.at kp4 (fun h => h); have kp5q := hSq.at kp5 (fun h => h); go_simp; (try with_reducible rfl))); (try simp only [Act.put, zF, zG, zH]))
        (refine TD.val0 (v := ?v14) (by simp only [zA, zB, zC]; rfl) rfl ?hw14 (fun w1 => ?hy14) ?hn14; (case hw14 => rfl); (case hy14 => (go_simp; (try with_reducible rfl))); (try simp only [Act.put, zF, zG, zH]))
        (refine TD.val0 (v := ?v15) (by simp only [zA, zB, zC]; rfl) rfl ?hw15 (fun w1 => ?hy15) ?hn15; (case hw15 => rfl); (case hy15 => (go_simp; (try with_reducible rfl))); (try simp only [Act.put, zF, zG, zH]))
        (refine TD.val0 (v := ?v16) (by simp only [zA, zB, zC]; rfl) rfl ?hw16 (fun w1 => ?hy16) ?hn16; (case hw16 => rfl); (case hy16 => (go_simp; (try with_reducible rfl))); (try simp only [Act.put, zF, zG, zH]))
        (refine TD.val0 (v := ?v17) (by simp only [zA, zB, zC]; rfl) rfl ?hw17 (fun w1 => ?hy17) ?hn17; (case hw17 => rfl); (case hy17 => (go_simp; (try with_reducible rfl))); (try simp only [Act.put, zF, zG, zH]))
        (refine TD.conv (v := ?v18) (p := ?p18) (Mod.refl _ _) (by simp only [zA, zB, zC]; rfl) rfl ?hw18 rfl ?hx18 (fun wq hSq => ?hy18) ?hn18; (case hw18 => rfl); (case hx18 => (simp only [Act.eval, zD, zA, zB, zC, zE]; (try rfl))); (case hy18 => (rw [hcx wq hSq]; (try with_reducible rfl))); (try simp only [Act.put, zF, zG, zH]))
        (refine TD.val0 (v := ?v19) (by simp only [zA, zB, zC]; rfl) rfl ?hw19 (fun w1 => ?hy19) ?hn19; (case hw19 => rfl); (case hy19 => (go_simp; (try with_reducible rfl))); (try simp only [Act.put, zF, zG, zH]))
        (refine TD.conv (v := ?v20) (p := ?p20) (Mod.refl _ _) (by simp only [zA, zB, zC]; rfl) rfl ?hw20 rfl ?hx20 (fun wq hSq => ?hy20) ?hn20; (case hw20 => rfl); (case hx20 => (simp only [Act.eval, zD, zA, zB, zC, zE]; (try rfl))); (case hy20 => (rw [hck wq hSq]; (try with_reducible rfl))); (try simp only [Act.put, zF, zG, zH]))
        (refine TD.val0 (v := ?v21) (by simp only [zA, zB, zC]; rfl) rfl ?hw21 (fun w1 => ?hy21) ?hn21; (case hw21 => rfl); (case hy21 => (go_simp; (try with_reducible rfl))); (try simp only [Act.put, zF, zG, zH]))
        (refine TD.val0 (v := ?v22) (by simp only [zA, zB, zC]; rfl) rfl ?hw22 (fun w1 => ?hy22) ?hn22; (case hw22 => rfl); (case hy22 => (go_simp; (try with_reducible rfl))); (try simp only [Act.put, zF, zG, zH]))
        refine TD.nil (fun w2 hr => ?_)
        replace kl := hr.mod.at kl (fun h => h)
        replace kr := hr.mod.at kr (fun h => h)
        replace kp4 := hr.mod.at kp4 (fun h => h)
        replace kp5 := hr.mod.at kp5 (fun h => h)
        have hmm := hmm.then0 hr.mod
        have HO := Lib.hid (HO.out.mod0 hr.mod)
        clear hcx hck hA hB
        have hbl := buildHold k a
        have hbs := bsHold ⟨k, a⟩ w2
        have mal := (Mod.refl (fun _ => False) w2).alloc (.cells (hd ⟨k, a⟩) 155)
        have hone := oneNew w2 ⟨k, a⟩
        obtain ⟨v3, w3, hap, hO5, m5, hn5⟩ := SlOwn.append holdT (q := [⟨k, a⟩]) (c := 1) (HO.out.mod0 mal) hone HL2.out.2.1 (by decide) (Nat.le_trans HB.out (Nat.le_trans hmm.size mal.size)) 22
        have hap : (Builtin.append_ #[22, 22] 22 #[_, .slice (some ⟨w2.heap.size, 0, none⟩) 1 1]).run Try.prog _ = _ := hap
        have hol := HO.out.lt
        have hmm5 : Mod (fun _ => False) w1 w3 := (hmm.then0 mal).then m5 (fun i hi e => by have := hol i e; have := HB.out; omega)
        go_upto_region 7 with fail
        refine region_seq 7 rfl ?_
        simp only [List.range, List.range.loop]
        (refine sq_val (v := ?v23) (by simp only [zA, zB, zC]; rfl) ?hw23 ?hy23 ?hn23; (case hw23 => rfl); (case hy23 => (go_simp; (try with_reducible rfl))); (try simp only [Act.put, zF, zG, zH]))
        (refine sq_load (v := ?v24) (p := ?p24) (by simp only [zA, zB, zC]; rfl) ?hw24 rfl ?hx24 ?hy24 ?hn24; (case hw24 => rfl); (case hx24 => (simp only [Act.eval, zD, zA, zB, zC, zE]; (try rfl))); (case hy24 => (go_simp; (try with_reducible rfl))); (try simp only [Act.put, zF, zG, zH]))
        (refine sq_load (v := ?v25) (p := ?p25) (by simp only [zA, zB, zC]; rfl) ?hw25 rfl ?hx25 ?hy25 ?hn25; (case hw25 => rfl); (case hx25 => (simp only [Act.eval, zD, zA, zB, zC, zE]; (try rfl))); (case hy25 => (go_simp; (try with_reducible rfl))); (try simp only [Act.put, zF, zG, zH]))
        (refine sq_bld (by simp only [zA, zB, zC]; rfl) ?hw26 rfl ?hx26 (hbl _) ?hn26; (case hw26 => rfl); (case hx26 => (simp only [List.map_toArray, List.map_cons, List.map_nil, Act.eval, zD, zA, zB, zC, zE]; (try rfl))); (try simp only [Act.put, zF, zG, zH]))
        (refine sq_build (by simp only [zA, zB, zC]; rfl) ?hw27 rfl ?hx27 hbs ?hn27; (case hw27 => rfl); (case hx27 => (simp only [List.map_toArray, List.map_cons, List.map_nil, Act.eval, zD, zA, zB, zC, zE]; (try rfl))); (try simp only [Act.put, zF, zG, zH]))
        (refine sq_append (by simp only [zA, zB, zC]; rfl) ?hw28 rfl ?hx28 ?hz28 hap ?hn28; (case hw28 => rfl); (case hx28 => (simp only [Act.eval, zD, zA, zB, zC, zE]; (try rfl))); (case hz28 => (simp only [Act.eval, zD, zA, zB, zC, zE]; (try rfl))); (try simp only [Act.put, zF, zG, zH]))
        (refine sq_val (v := ?v29) (by simp only [zA, zB, zC]; rfl) ?hw29 ?hy29 ?hn29; (case hw29 => rfl); (case hy29 => (go_simp; (try with_reducible rfl))); (try simp only [Act.put, zF, zG, zH]))
        refine sq_nil ?_
        replace kr := hmm5.at0 KR.out
        replace kp4 := hmm5.at0 K4.out
        replace kp5 := hmm5.at0 K5.out
        replace hmm := hmm5
        replace HO := Lib.hid hO5
        clear hbs mal hone hap hol hmm5 hO5 m5 hn5
        replace kl := hmm.at0 KL.out
        clear hbl
        have hb9 : decide (xk = k) = false := hne
        go_upto_region 9 with fail
        have Lkl := lt_size kl
        have Lkr := lt_size kr
        have Lkp4 := lt_size kp4
        have Lkp5 := lt_size kp5
        refine wp_pass (C := fun _ _ _ => False) (κ := fun i => [0, 0, 0, 1, 0, 0, 0, 1, 1, 0].getD i 0) [0, 1, 2, 3, 4, 5, 6, 7, 8, 9] (by kernel_rfl) (by kernel_rfl) (fun _ _ d _ _ h => by cases d <;> first | exact h | exact absurd h (hP _ _ _)) ?_
        (refine TD.val0 (v := ?v30) (by simp only [zA, zB, zC]; rfl) rfl ?hw30 (fun w1 => ?hy30) ?hn30; (case hw30 => rfl); (case hy30 => (go_simp; (try with_reducible rfl))); (try simp only [Act.put, zF, zG, zH]))
        (refine TD.val0 (v := ?v31) (by simp only [zA, zB, zC]; rfl) rfl ?hw31 (fun w1 => ?hy31) ?hn31; (case hw31 => rfl); (case hy31 => (go_simp; (try with_reducible rfl))); (try simp only [Act.put, zF, zG, zH]))
        (refine TD.val0 (v := ?v32) (by simp only [zA, zB, zC]; rfl) rfl ?hw32 (fun w1 => ?hy32) ?hn32; (case hw32 => rfl); (case hy32 => (go_simp; (try with_reducible rfl))); (try simp only [Act.put, zF, zG, zH]))
        (refine TD.load (v := ?v33) (p := ?p33) (Mod.refl _ _) (by simp only [zA, zB, zC]; rfl) rfl ?hw33 rfl ?hx33 (fun wq hSq => ?hy33) ?hn33; (case hw33 => rfl); (case hx33 => (simp only [Act.eval, zD, zA, zB, zC, zE]; (try rfl))); (case hy33 => (have klq := hSq.at kl (fun h => h); have krq := hSq.at kr (fun h => h); have kp4q := hSq.at kp4 (fun h => h); have kp5q := hSq.at kp5 (fun h => h); go_simp; (try with_reducible rfl))); (try simp only [Act.put, zF, zG, zH]))
        (refine TD.val0 (v := ?v34) (by simp only [zA, zB, zC]; rfl) rfl ?hw34 (fun w1 => ?hy34) ?hn34; (case hw34 => rfl); (case hy34 => (go_simp; (try with_reducible rfl))); (try simp only [Act.put, zF, zG, zH]))
        (refine TD.val0 (v := ?v35) (by simp only [zA, zB, zC]; rfl) rfl ?hw35 (fun w1 => ?hy35) ?hn35; (case hw35 => rfl); (case hy35 => (go_simp; (try with_reducible rfl))); (try simp only [Act.put, zF, zG, zH]))
        (refine TD.val0 (v := ?v36) (by simp only [zA, zB, zC]; rfl) rfl ?hw36 (fun w1 => ?hy36) ?hn36; (case hw36 => rfl); (case hy36 => (go_simp; (try with_reducible rfl))); (try simp only [Act.put, zF, zG, zH]))
        (refine TD.load (v := ?v37) (p := ?p37) (Mod.refl _ _) (by simp only [zA, zB, zC]; rfl) rfl ?hw37 rfl ?hx37 (fun wq hSq => ?hy37) ?hn37; (case hw37 => rfl); (case hx37 => (simp only [Act.eval, zD, zA, zB, zC, zE]; (try rfl))); (case hy37 => (have klq := hSq.at kl (fun h => h); have krq := hSq.at kr (fun h => h); have kp4q := hSq.at kp4 (fun h => h); have kp5q := hSq.at kp5 (fun h => h); go_simp; (try with_reducible rfl))); (try simp only [Act.put, zF, zG, zH]))
        (refine TD.load (v := ?v38) (p := ?p38) (Mod.refl _ _) (by simp only [zA, zB, zC]; rfl) rfl ?hw38 rfl ?hx38 (fun wq hSq => ?hy38) ?hn38; (case hw38 => rfl); (case hx38 => (simp only [Act.eval, zD, zA, zB, zC, zE]; (try rfl))); (case hy38 => (have klq := hSq.at kl (fun h => h); have krq := hSq.at kr (fun h => h); have kp4q := hSq.at kp4 (fun h => h); have kp5q := hSq.at kp5 (fun h => h); go_simp; (try with_reducible rfl))); (try simp only [Act.put, zF, zG, zH]))
        (refine TD.val0 (v := ?v39) (by simp only [zA, zB, zC]; rfl) rfl ?hw39 (fun w1 => ?hy39) ?hn39; (case hw39 => rfl); (case hy39 => (go_simp; (try with_reducible rfl))); (try simp only [Act.put, zF, zG, zH]))
        refine TD.nil (fun w4 hr => ?_)
        replace kl := hr.mod.at kl (fun h => h)
        replace kr := hr.mod.at kr (fun h => h)
        replace kp4 := hr.mod.at kp4 (fun h => h)
        replace kp5 := hr.mod.at kp5 (fun h => h)
        replace hmm := hmm.then0 hr.mod
        replace HO := Lib.hid (HO.out.mod0 hr.mod)
        clear hb9
        have hbs := bsHold ⟨xk, xa⟩ w4
        have mal := (Mod.refl (fun _ => False) w4).alloc (.cells (hd ⟨xk, xa⟩) 155)
        have hone := oneNew w4 ⟨xk, xa⟩
        obtain ⟨v5, w5, hap, hO5, m5, hn5⟩ := SlOwn.append holdT (q := [⟨xk, xa⟩]) (c := 1) (HO.out.mod0 mal) hone HL2.out.1 (by decide) (Nat.le_trans HB.out (Nat.le_trans hmm.size mal.size)) 22
        have hap : (Builtin.append_ #[22, 22] 22 #[_, .slice (some ⟨w4.heap.size, 0, none⟩) 1 1]).run Try.prog _ = _ := hap
        have hol := HO.out.lt
        have hmm5 : Mod (fun _ => False) w1 w5 := (hmm.then0 mal).then m5 (fun i hi e => by have := hol i e; have := HB.out; omega)
        go_upto_region 10 with fail
        refine region_seq 11 rfl ?_
        simp only [List.range, List.range.loop]
        (refine sq_val (v := ?v40) (by simp only [zA, zB, zC]; rfl) ?hw40 ?hy40 ?hn40; (case hw40 => rfl); (case hy40 => (go_simp; (try with_reducible rfl))); (try simp only [Act.put, zF, zG, zH]))
        (refine sq_val (v := ?v41) (by simp only [zA, zB, zC]; rfl) ?hw41 ?hy41 ?hn41; (case hw41 => rfl); (case hy41 => (go_simp; (try with_reducible rfl))); (try simp only [Act.put, zF, zG, zH]))
        (refine sq_val (v := ?v42) (by simp only [zA, zB, zC]; rfl) ?hw42 ?hy42 ?hn42; (case hw42 => rfl); (case hy42 => (go_simp; (try with_reducible rfl))); (try simp only [Act.put, zF, zG, zH]))
        (refine sq_val (v := ?v43) (by simp only [zA, zB, zC]; rfl) ?hw43 ?hy43 ?hn43; (case hw43 => rfl); (case hy43 => (go_simp; (try with_reducible rfl))); (try simp only [Act.put, zF, zG, zH]))
        (refine sq_load (v := ?v44) (p := ?p44) (by simp only [zA, zB, zC]; rfl) ?hw44 rfl ?hx44 ?hy44 ?hn44; (case hw44 => rfl); (case hx44 => (simp only [Act.eval, zD, zA, zB, zC, zE]; (try rfl))); (case hy44 => (go_simp; (try with_reducible rfl))); (try simp only [Act.put, zF, zG, zH]))
        (refine sq_val (v := ?v45) (by simp only [zA, zB, zC]; rfl) ?hw45 ?hy45 ?hn45; (case hw45 => rfl); (case hy45 => (go_simp; (try with_reducible rfl))); (try simp only [Act.put, zF, zG, zH]))
        (refine sq_val (v := ?v46) (by simp only [zA, zB, zC]; rfl) ?hw46 ?hy46 ?hn46; (case hw46 => rfl); (case hy46 => (go_simp; (try with_reducible rfl))); (try simp only [Act.put, zF, zG, zH]))
        (refine sq_load (v := ?v47) (p := ?p47) (by simp only [zA, zB, zC]; rfl) ?hw47 rfl ?hx47 ?hy47 ?hn47; (case hw47 => rfl); (case hx47 => (simp only [Act.eval, zD, zA, zB, zC, zE]; (try rfl))); (case hy47 => (go_simp; (try with_reducible rfl))); (try simp only [Act.put, zF, zG, zH]))
        (refine sq_build (by simp only [zA, zB, zC]; rfl) ?hw48 rfl ?hx48 hbs ?hn48; (case hw48 => rfl); (case hx48 => (simp only [List.map_toArray, List.map_cons, List.map_nil, Act.eval, zD, zA, zB, zC, zE]; (try rfl))); (try simp only [Act.put, zF, zG, zH]))
        (refine sq_append (by simp only [zA, zB, zC]; rfl) ?hw49 rfl ?hx49 ?hz49 hap ?hn49; (case hw49 => rfl); (case hx49 => (simp only [Act.eval, zD, zA, zB, zC, zE]; (try rfl))); (case hz49 => (simp only [Act.eval, zD, zA, zB, zC, zE]; (try rfl))); (try simp only [Act.put, zF, zG, zH]))
        (refine sq_val (v := ?v50) (by simp only [zA, zB, zC]; rfl) ?hw50 ?hy50 ?hn50; (case hw50 => rfl); (case hy50 => (go_simp; (try with_reducible rfl))); (try simp only [Act.put, zF, zG, zH]))
        refine sq_nil ?_
        replace kr := hmm5.at0 KR.out
        replace kp4 := hmm5.at0 K4.out
        replace kp5 := hmm5.at0 K5.out
        replace hmm := hmm5
        replace HO := Lib.hid hO5
        clear hbs mal hone hap hol hmm5 hO5 m5 hn5
        go_wp2_with fail
        go_roundw
        case rel => exact ⟨i + 1, _, true, by omega, by go_num, rfl, HO, HST2, Lib.hid (by have := HOL.out; simp; omega), hmm⟩
        case measure => simp [intOf]; omega
      · have HR6 : Hid (d = true ∨ (d = false ∧ xk = k) ∨ (d = false ∧ klt xk k = true)) := Lib.hid (by
          cases d with
          | true => exact .inl rfl
          | false =>
            rcases klt_total k xk with h | h | h
            · rw [h] at hand; cases hand
            · exact .inr (.inl ⟨rfl, h.symm⟩)
            · exact .inr (.inr ⟨rfl, h⟩))
        have hgo : ∃ w2 : World, Mod (fun _ => False) wr w2 := ⟨wr, Mod.refl _ _⟩
        clear hgo
        rcases HR6.out with rfl | ⟨rfl, hq⟩ | ⟨rfl, hq⟩
        · clear hcx hck
          go_upto_region 6 with fail
          have Lkl := lt_size kl
          have Lkr := lt_size kr
          have Lkp4 := lt_size kp4
          have Lkp5 := lt_size kp5
          refine wp_pass (C := fun _ _ _ => False) (κ := fun i => [0, 0, 0, 0, 0, 0, 0, 0, 0, 0, 0, 0, 0, 0, 0, 0].getD i 0) [0, 1, 2, 3, 4, 5, 6, 7, 8, 9, 10, 11, 12, 13, 14, 15] (by kernel_rfl) (by kernel_rfl) (fun _ _ d _ _ h => by cases d <;> first | exact h | exact absurd h (hP _ _ _)) ?_
          (refine TD.val0 (v := ?v51) (by simp only [zA, zB, zC]; rfl) rfl ?hw51 (fun w1 => ?hy51) ?hn51; (case hw51 => rfl); (case hy51 => (go_simp; (try with_reducible rfl))); (try simp only [Act.put, zF, zG, zH]))
          (refine TD.val0 (v := ?v52) (by simp only [zA, zB, zC]; rfl) rfl ?hw52 (fun w1 => ?hy52) ?hn52; (case hw52 => rfl); (case hy52 => (go_simp; (try with_reducible rfl))); (try simp only [Act.put, zF, zG, zH]))
          (refine TD.val0 (v := ?v53) (by simp only [zA, zB, zC]; rfl) rfl ?hw53 (fun w1 => ?hy53) ?hn53; (case hw53 => rfl); (case hy53 => (go_simp; (try with_reducible rfl))); (try simp only [Act.put, zF, zG, zH]))
          (refine TD.pass (by simp only [zA, zB, zC]; rfl) rfl ?hw54 ?hn54; (case hw54 => rfl); (try simp only [Act.put, zF, zG, zH]))
          (refine TD.pass (by simp only [zA, zB, zC]; rfl) rfl ?hw55 ?hn55; (case hw55 => rfl); (try simp only [Act.put, zF, zG, zH]))
          (refine TD.pass (by simp only [zA, zB, zC]; rfl) rfl ?hw56 ?hn56; (case hw56 => rfl); (try simp only [Act.put, zF, zG, zH]))
          (refine TD.pass (by simp only [zA, zB, zC]; rfl) rfl ?hw57 ?hn57; (case hw57 => rfl); (try simp only [Act.put, zF, zG, zH]))
          (refine TD.pass (by simp only [zA, zB, zC]; rfl) rfl ?hw58 ?hn58; (case hw58 => rfl); (try simp only [Act.put, zF, zG, zH]))
          (refine TD.pass (by simp only [zA, zB, zC]; rfl) rfl ?hw59 ?hn59; (case hw59 => rfl); (try simp only [Act.put, zF, zG, zH]))
          (refine TD.pass (by simp only [zA, zB, zC]; rfl) rfl ?hw60 ?hn60; (case hw60 => rfl); (try simp only [Act.put, zF, zG, zH]))
          (refine TD.pass (by simp only [zA, zB, zC]; rfl) rfl ?hw61 ?hn61; (case hw61 => rfl); (try simp only [Act.put, zF, zG, zH]))
          (refine TD.pass (by simp only [zA, zB, zC]; rfl) rfl ?hw62 ?hn62; (case hw62 => rfl); (try simp only [Act.put, zF, zG, zH]))
          (refine TD.pass (by simp only [zA, zB, zC]; rfl) rfl ?hw63 ?hn63; (case hw63 => rfl); (try simp only [Act.put, zF, zG, zH]))
          (refine TD.pass (by simp only [zA, zB, zC]; rfl) rfl ?hw64 ?hn64; (case hw64 => rfl); (try simp only [Act.put, zF, zG, zH]))
          (refine TD.pass (by simp only [zA, zB, zC]; rfl) rfl ?hw65 ?hn65; (case hw65 => rfl); (try simp only [Act.put, zF, zG, zH]))
          (refine TD.val0 (v := ?v66) (by simp only [zA, zB, zC]; rfl) rfl ?hw66 (fun w1 => ?hy66) ?hn66; (case hw66 => rfl); (case hy66 => (go_simp; (try with_reducible rfl))); (try simp only [Act.put, zF, zG, zH]))
          refine TD.nil (fun w2 hr => ?_)
          replace kl := hr.mod.at kl (fun h => h)
          replace kr := hr.mod.at kr (fun h => h)
          replace kp4 := hr.mod.at kp4 (fun h => h)
          replace kp5 := hr.mod.at kp5 (fun h => h)
          replace hmm := hmm.then0 hr.mod
          replace HO := Lib.hid (HO.out.mod0 hr.mod)
          by_cases hxk : xk = k
          · have hne : decide (xk = k) = true := decide_eq_true hxk
            have HST2 : Hid (O ++ rputL k a true (L.drop (i + 1)) = rputL k a d0 L) := Lib.hid (by
              have h := HST.out
              rw [hand, hor, if_pos hxk] at h
              simpa using h)
            clear HST hxk
            have hb9 : decide (xk = k) = true := hne
            go_upto_region 9 with fail
            have Lkl := lt_size kl
            have Lkr := lt_size kr
            have Lkp4 := lt_size kp4
            have Lkp5 := lt_size kp5
            refine wp_pass (C := fun _ _ _ => False) (κ := fun i => [0, 0, 0, 1, 0, 0, 0, 1, 1, 0].getD i 0) [0, 1, 2, 3, 4, 5, 6, 7, 8, 9] (by kernel_rfl) (by kernel_rfl) (fun _ _ d _ _ h => by cases d <;> first | exact h | exact absurd h (hP _ _ _)) ?_
            (refine TD.val0 (v := ?v67) (by simp only [zA, zB, zC]; rfl) rfl ?hw67 (fun w1 => ?hy67) ?hn67; (case hw67 => rfl); (case hy67 => (go_simp; (try with_reducible rfl))); (try simp only [Act.put, zF, zG, zH]))
            (refine TD.val0 (v := ?v68) (by simp only [zA, zB, zC]; rfl) rfl ?hw68 (fun w1 => ?hy68) ?hn68; (case hw68 => rfl); (case hy68 => (go_simp; (try with_reducible rfl))); (try simp only [Act.put, zF, zG, zH]))
            (refine TD.val0 (v := ?v69) (by simp only [zA, zB, zC]; rfl) rfl ?hw69 (fun w1 => ?hy69) ?hn69; (case hw69 => rfl); (case hy69 => (go_simp; (try with_reducible rfl))); (try simp only [Act.put, zF, zG, zH]))
            (refine TD.load (v := ?v70) (p := ?p70) (Mod.refl _ _) (by simp only [zA, zB, zC]; rfl) rfl ?hw70 rfl ?hx70 (fun wq hSq => ?hy70) ?hn70; (case hw70 => rfl); (case hx70 => (simp only [Act.eval, zD, zA, zB, zC, zE]; (try rfl))); (case hy70 => (have klq := hSq.at kl (fun h => h); have krq := hSq.at kr (fun h => h); have kp4q := hSq.at kp4 (fun h => h); have kp5q := hSq.at kp5 (fun h => h); go_simp; (try with_reducible rfl))); (try simp only [Act.put, zF, zG, zH]))
            (refine TD.val0 (v := ?v71) (by simp only [zA, zB, zC]; rfl) rfl ?hw71 (fun w1 => ?hy71) ?hn71; (case hw71 => rfl); (case hy71 => (go_simp; (try with_reducible rfl))); (try simp only [Act.put, zF, zG, zH]))
            (refine TD.val0 (v := ?v72) (by simp only [zA, zB, zC]; rfl) rfl ?hw72 (fun w1 => ?hy72) ?hn72; (case hw72 => rfl); (case hy72 => (go_simp; (try with_reducible rfl))); (try simp only [Act.put, zF, zG, zH]))
            (refine TD.val0 (v := ?v73) (by simp only [zA, zB, zC]; rfl) rfl ?hw73 (fun w1 => ?hy73) ?hn73; (case hw73 => rfl); (case hy73 => (go_simp; (try with_reducible rfl))); (try simp only [Act.put, zF, zG, zH]))
            (refine TD.load (v := ?v74) (p := ?p74) (Mod.refl _ _) (by simp only [zA, zB, zC]; rfl) rfl ?hw74 rfl ?hx74 (fun wq hSq => ?hy74) ?hn74; (case hw74 => rfl); (case hx74 => (simp only [Act.eval, zD, zA, zB, zC, zE]; (try rfl))); (case hy74 => (have klq := hSq.at kl (fun h => h); have krq := hSq.at kr (fun h => h); have kp4q := hSq.at kp4 (fun h => h); have kp5q := hSq.at kp5 (fun h => h); go_simp; (try with_reducible rfl))); (try simp only [Act.put, zF, zG, zH]))
            (refine TD.load (v := ?v75) (p := ?p75) (Mod.refl _ _) (by simp only [zA, zB, zC]; rfl) rfl ?hw75 rfl ?hx75 (fun wq hSq => ?hy75) ?hn75; (case hw75 => rfl); (case hx75 => (simp only [Act.eval, zD, zA, zB, zC, zE]; (try rfl))); (case hy75 => (have klq := hSq.at kl (fun h => h); have krq := hSq.at kr (fun h => h); have kp4q := hSq.at kp4 (fun h => h); have kp5q := hSq.at kp5 (fun h => h); go_simp; (try with_reducible rfl))); (try simp only [Act.put, zF, zG, zH]))
            (refine TD.val0 (v := ?v76) (by simp only [zA, zB, zC]; rfl) rfl ?hw76 (fun w1 => ?hy76) ?hn76; (case hw76 => rfl); (case hy76 => (go_simp; (try with_reducible rfl))); (try simp only [Act.put, zF, zG, zH]))
            refine TD.nil (fun w4 hr => ?_)
            replace kl := hr.mod.at kl (fun h => h)
            replace kr := hr.mod.at kr (fun h => h)
            replace kp4 := hr.mod.at kp4 (fun h => h)
            replace kp5 := hr.mod.at kp5 (fun h => h)
            replace hmm := hmm.then0 hr.mod
            replace HO := Lib.hid (HO.out.mod0 hr.mod)
            clear hb9
            go_wp2_with fail
            go_roundw
            case rel => exact ⟨i + 1, _, true, by omega, by go_num, rfl, HO, HST2, Lib.hid (by have := HOL.out; omega), hmm⟩
            case measure => simp [intOf]; omega
          · have hne : decide (xk = k) = false := decide_eq_false hxk
            have HST2 : Hid ((O ++ [(⟨xk, xa⟩ : Hold)]) ++ rputL k a true (L.drop (i + 1)) = rputL k a d0 L) := Lib.hid (by
              have h := HST.out
              rw [hand, hor, if_neg hxk] at h
              simpa using h)
            clear HST hxk
            have hb9 : decide (xk = k) = false := hne
            go_upto_region 9 with fail
            have Lkl := lt_size kl
            have Lkr := lt_size kr
            have Lkp4 := lt_size kp4
            have Lkp5 := lt_size kp5
            refine wp_pass (C := fun _ _ _ => False) (κ := fun i => [0, 0, 0, 1, 0, 0, 0, 1, 1, 0].getD i 0) [0, 1, 2, 3, 4, 5, 6, 7, 8, 9] (by kernel_rfl) (by kernel_rfl) (fun _ _ d _ _ h => by cases d <;> first | exact h | exact absurd h (hP _ _ _)) ?_
            (refine TD.val0 (v := ?v77) (by simp only [zA, zB, zC]; rfl) rfl ?hw77 (fun w1 => ?hy77) ?hn77; (case hw77 => rfl); (case hy77 => (go_simp; (try with_reducible rfl))); (try simp only [Act.put, zF, zG, zH]))
            (refine TD.val0 (v := ?v78) (by simp only [zA, zB, zC]; rfl) rfl ?hw78 (fun w1 => ?hy78) ?hn78; (case hw78 => rfl); (case hy78 => (go_simp; (try with_reducible rfl))); (try simp only [Act.put, zF, zG, zH]))
            (refine TD.val0 (v := ?v79) (by simp only [zA, zB, zC]; rfl) rfl ?hw79 (fun w1 => ?hy79) ?hn79; (case hw79 => rfl); (case hy79 => (go_simp; (try with_reducible rfl))); (try simp only [Act.put, zF, zG, zH]))
            (refine TD.load (v := ?v80) (p := ?p80) (Mod.refl _ _) (by simp only [zA, zB, zC]; rfl) rfl ?hw80 rfl ?hx80 (fun wq hSq => ?hy80) ?hn80; (case hw80 => rfl); (case hx80 => (simp only [Act.eval, zD, zA, zB, zC, zE]; (try rfl))); (case hy80 => (have klq := hSq.at kl (fun h => h); have krq := hSq.at kr (fun h => h); have kp4q := hSq.at kp4 (fun h => h); have kp5q := hSq.at kp5 (fun h => h); go_simp; (try with_reducible rfl))); (try simp only [Act.put, zF, zG, zH]))
            (refine TD.val0 (v := ?v81) (by simp only [zA, zB, zC]; rfl) rfl ?hw81 (fun w1 => ?hy81) ?hn81; (case hw81 => rfl); (case hy81 => (go_simp; (try with_reducible rfl))); (try simp only [Act.put, zF, zG, zH]))
            (refine TD.val0 (v := ?v82) (by simp only [zA, zB, zC]; rfl) rfl ?hw82 (fun w1 => ?hy82) ?hn82; (case hw82 => rfl); (case hy82 => (go_simp; (try with_reducible rfl))); (try simp only [Act.put, zF, zG, zH]))
            (refine TD.val0 (v := ?v83) (by simp only [zA, zB, zC]; rfl) rfl ?hw83 (fun w1 => ?hy83) ?hn83; (case hw83 => rfl); (case hy83 => (go_simp; (try with_reducible rfl))); (try simp only [Act.put, zF, zG, zH]))
            (refine TD.load (v := ?v84) (p := ?p84) (Mod.refl _ _) (by simp only [zA, zB, zC]; rfl) rfl ?hw84 rfl ?hx84 (fun wq hSq => ?hy84) ?hn84; (case hw84 => rfl); (case hx84 => (simp only [Act.eval, zD, zA, zB, zC, zE]; (try rfl))); (case hy84 => (have klq := hSq.at kl (fun h => h); have krq := hSq.at kr (fun h => h); have kp4q := hSq.at kp4 (fun h => h); have kp5q := hSq.at kp5 (fun h => h); go_simp; (try with_reducible rfl))); (try simp only [Act.put, zF, zG, zH]))
            (refine TD.load (v := ?v85) (p := ?p85) (Mod.refl _ _) (by simp only [zA, zB, zC]; rfl) rfl ?hw85 rfl ?hx85 (fun wq hSq => ?hy85) ?hn85; (case hw85 => rfl); (case hx85 => (simp only [Act.eval, zD, zA, zB, zC, zE]; (try rfl))); (case hy85 => (have klq := hSq.at kl (fun h => h); have krq := hSq.at kr (fun h => h); have kp4q := hSq.at kp4 (fun h => h); have kp5q := hSq.at kp5 (fun h => h); go_simp; (try with_reducible rfl))); (try simp only [Act.put, zF, zG, zH]))
            (refine TD.val0 (v := ?v86) (by simp only [zA, zB, zC]; rfl) rfl ?hw86 (fun w1 => ?hy86) ?hn86; (case hw86 => rfl); (case hy86 => (go_simp; (try with_reducible rfl))); (try simp only [Act.put, zF, zG, zH]))
            refine TD.nil (fun w4 hr => ?_)
            replace kl := hr.mod.at kl (fun h => h)
            replace kr := hr.mod.at kr (fun h => h)
            replace kp4 := hr.mod.at kp4 (fun h => h)
            replace kp5 := hr.mod.at kp5 (fun h => h)
            replace hmm := hmm.then0 hr.mod
            replace HO := Lib.hid (HO.out.mod0 hr.mod)
            clear hb9
            have hbs := bsHold ⟨xk, xa⟩ w4
            have mal := (Mod.refl (fun _ => False) w4).alloc (.cells (hd ⟨xk, xa⟩) 155)
            have hone := oneNew w4 ⟨xk, xa⟩
            obtain ⟨v5, w5, hap, hO5, m5, hn5⟩ := SlOwn.append holdT (q := [⟨xk, xa⟩]) (c := 1) (HO.out.mod0 mal) hone HL2.out.2.2 (by decide) (Nat.le_trans HB.out (Nat.le_trans hmm.size mal.size)) 22
            have hap : (Builtin.append_ #[22, 22] 22 #[_, .slice (some ⟨w4.heap.size, 0, none⟩) 1 1]).run Try.prog _ = _ := hap
            have hol := HO.out.lt
            have hmm5 : Mod (fun _ => False) w1 w5 := (hmm.then0 mal).then m5 (fun i hi e => by have := hol i e; have := HB.out; omega)
            go_upto_region 10 with fail
            refine region_seq 11 rfl ?_
            simp only [List.range, List.range.loop]
            (refine sq_val (v := ?v87) (by simp only [zA, zB, zC]; rfl) ?hw87 ?hy87 ?hn87; (case hw87 => rfl); (case hy87 => (go_simp; (try with_reducible rfl))); (try simp only [Act.put, zF, zG, zH]))
            (refine sq_val (v := ?v88) (by simp only [zA, zB, zC]; rfl) ?hw88 ?hy88 ?hn88; (case hw88 => rfl); (case hy88 => (go_simp; (try with_reducible rfl))); (try simp only [Act.put, zF, zG, zH]))
            (refine sq_val (v := ?v89) (by simp only [zA, zB, zC]; rfl) ?hw89 ?hy89 ?hn89; (case hw89 => rfl); (case hy89 => (go_simp; (try with_reducible rfl))); (try simp only [Act.put, zF, zG, zH]))
            (refine sq_val (v := ?v90) (by simp only [zA, zB, zC]; rfl) ?hw90 ?hy90 ?hn90; (case hw90 => rfl); (case hy90 => (go_simp; (try with_reducible rfl))); (try simp only [Act.put, zF, zG, zH]))
            (refine sq_load (v := ?v91) (p := ?p91) (by simp only [zA, zB, zC]; rfl) ?hw91 rfl ?hx91 ?hy91 ?hn91; (case hw91 => rfl); (case hx91 => (simp only [Act.eval, zD, zA, zB, zC, zE]; (try rfl))); (case hy91 => (go_simp; (try with_reducible rfl))); (try simp only [Act.put, zF, zG, zH]))
            (refine sq_val (v := ?v92) (by simp only [zA, zB, zC]; rfl) ?hw92 ?hy92 ?hn92; (case hw92 => rfl); (case hy92 => (go_simp; (try with_reducible rfl))); (try simp only [Act.put, zF, zG, zH]))
            (refine sq_val (v := ?v93) (by simp only [zA, zB, zC]; rfl) ?hw93 ?hy93 ?hn93; (case hw93 => rfl); (case hy93 => (go_simp; (try with_reducible rfl))); (try simp only [Act.put, zF, zG, zH]))
            (refine sq_load (v := ?v94) (p := ?p94) (by simp only [zA, zB, zC]; rfl) ?hw94 rfl ?hx94 ?hy94 ?hn94; (case hw94 => rfl); (case hx94 => (simp only [Act.eval, zD, zA, zB, zC, zE]; (try rfl))); (case hy94 => (go_simp; (try with_reducible rfl))); (try simp only [Act.put, zF, zG, zH]))
            (refine sq_build (by simp only [zA, zB, zC]; rfl) ?hw95 rfl ?hx95 hbs ?hn95; (case hw95 => rfl); (case hx95 => (simp only [List.map_toArray, List.map_cons, List.map_nil, Act.eval, zD, zA, zB, zC, zE]; (try rfl))); (try simp only [Act.put, zF, zG, zH]))
            (refine sq_append (by simp only [zA, zB, zC]; rfl) ?hw96 rfl ?hx96 ?hz96 hap ?hn96; (case hw96 => rfl); (case hx96 => (simp only [Act.eval, zD, zA, zB, zC, zE]; (try rfl))); (case hz96 => (simp only [Act.eval, zD, zA, zB, zC, zE]; (try rfl))); (try simp only [Act.put, zF, zG, zH]))
            (refine sq_val (v := ?v97) (by simp only [zA, zB, zC]; rfl) ?hw97 ?hy97 ?hn97; (case hw97 => rfl); (case hy97 => (go_simp; (try with_reducible rfl))); (try simp only [Act.put, zF, zG, zH]))
            refine sq_nil ?_
            replace kr := hmm5.at0 KR.out
            replace kp4 := hmm5.at0 K4.out
            replace kp5 := hmm5.at0 K5.out
            replace hmm := hmm5
            replace HO := Lib.hid hO5
            clear hbs mal hone hap hol hmm5 hO5 m5 hn5
            go_wp2_with fail
            go_roundw
            case rel => exact ⟨i + 1, _, true, by omega, by go_num, rfl, HO, HST2, Lib.hid (by have := HOL.out; simp; omega), hmm⟩
            case measure => simp [intOf]; omega
        · obtain ⟨hA, hB⟩ := bytes_eq k
          subst hq
          generalize bytesOfL xk.l = bx at *
          go_upto_region 6 with fail
          have Lkl := lt_size kl
          have Lkr := lt_size kr
          have Lkp4 := lt_size kp4
          have Lkp5 := lt_size kp5
          refine wp_pass (C := fun _ _ _ => False) (κ := fun i => [0, 0, 0, 0, 0, 0, 1, 0, 0, 0, 0, 1, 0, 1, 0, 0].getD i 0) [0, 1, 2, 3, 4, 5, 6, 7, 8, 9, 10, 11, 12, 13, 14, 15] (by kernel_rfl) (by kernel_rfl) (fun _ _ d _ _ h => by cases d <;> first | exact h | exact absurd h (hP _ _ _)) ?_
          (refine TD.val0 (v := ?v98) (by simp only [zA, zB, zC]; rfl) rfl ?hw98 (fun w1 => ?hy98) ?hn98; (case hw98 => rfl); (case hy98 => (go_simp; (try with_reducible rfl))); (try simp only [Act.put, zF, zG, zH]))
          (refine TD.val0 (v := ?v99) (by simp only [zA, zB, zC]; rfl) rfl ?hw99 (fun w1 => ?hy99) ?hn99; (case hw99 => rfl); (case hy99 => (go_simp; (try with_reducible rfl))); (try simp only [Act.put, zF, zG, zH]))
          (refine TD.val0 (v := ?v100) (by simp only [zA, zB, zC]; rfl) rfl ?hw100 (fun w1 => ?hy100) ?hn100; (case hw100 => rfl); (case hy100 => (go_simp; (try with_reducible rfl))); (try simp only [Act.put, zF, zG, zH]))
          (refine TD.val0 (v := ?v101) (by simp only [zA, zB, zC]; rfl) rfl ?hw101 (fun w1 => ?hy101) ?hn101; (case hw101 => rfl); (case hy101 => (go_simp; (try with_reducible rfl))); (try simp only [Act.put, zF, zG, zH]))
          (refine TD.val0 (v := ?v102) (by simp only [zA, zB, zC]; rfl) rfl ?hw102 (fun w1 => ?hy102) ?hn102; (case hw102 => rfl); (case hy102 => (go_simp; (try with_reducible rfl))); (try simp only [Act.put, zF, zG, zH]))
          (refine TD.val0 (v := ?v103) (by simp only [zA, zB, zC]; rfl) rfl ?hw103 (fun w1 => ?hy103) ?hn103; (case hw103 => rfl); (case hy103 => (go_simp; (try with_reducible rfl))); (try simp only [Act.put, zF, zG, zH]))
          (refine TD.load (v := ?v104) (p := ?p104) (Mod.refl _ _) (by simp only [zA, zB, zC]; rfl) rfl ?hw104 rfl ?hx104 (fun wq hSq => ?hy104) ?hn104; (case hw104 => rfl); (case hx104 => (simp only [Act.eval, zD, zA, zB, zC, zE]; (try rfl))); (case hy104 => (have klq := hSq.at kl (fun h => h); have krq := hSq.at kr (fun h => h); have kp4q := hSq.at kp4 (fun h => h); have kp5q := hSq.at kp5 (fun h => h); go_simp; (try with_reducible rfl))); (try simp only [Act.put, zF, zG, zH]))
          (refine TD.val0 (v := ?v105) (by simp only [zA, zB, zC]; rfl) rfl ?hw105 (fun w1 => ?hy105) ?hn105; (case hw105 => rfl); (case hy105 => (go_simp; (try with_reducible rfl))); (try simp only [Act.put, zF, zG, zH]))
          (refine TD.val0 (v := ?v106) (by simp only [zA, zB, zC]; rfl) rfl ?hw106 (fun w1 => ?hy106) ?hn106; (case hw106 => rfl); (case hy106 => (go_simp; (try with_reducible rfl))); (try simp only [Act.put, zF, zG, zH]))
          (refine TD.val0 (v := ?v107) (by simp only [zA, zB, zC]; rfl) rfl ?hw107 (fun w1 => ?hy107) ?hn107; (case hw107 => rfl); (case hy107 => (go_simp; (try with_reducible rfl))); (try simp only [Act.put, zF, zG, zH]))
          (refine TD.val0 (v := ?v108) (by simp only [zA, zB, zC]; rfl) rfl ?hw108 (fun w1 => ?hy108) ?hn108; (case hw108 => rfl); (case hy108 => (go_simp; (try with_reducible rfl))); (try simp only [Act.put, zF, zG, zH]))
          (refine TD.conv (v := ?v109) (p := ?p109) (Mod.refl _ _) (by simp only [zA, zB, zC]; rfl) rfl ?hw109 rfl ?hx109 (fun wq hSq => ?hy109) ?hn109; (case hw109 => rfl); (case hx109 => (simp only [Act.eval, zD, zA, zB, zC, zE]; (try rfl))); (case hy109 => (rw [hcx wq hSq]; (try with_reducible rfl))); (try simp only [Act.put, zF, zG, zH]))
          (refine TD.val0 (v := ?v110) (by simp only [zA, zB, zC]; rfl) rfl ?hw110 (fun w1 => ?hy110) ?hn110; (case hw110 => rfl); (case hy110 => (go_simp; (try with_reducible rfl))); (try simp only [Act.put, zF, zG, zH]))
          (refine TD.conv (v := ?v111) (p := ?p111) (Mod.refl _ _) (by simp only [zA, zB, zC]; rfl) rfl ?hw111 rfl ?hx111 (fun wq hSq => ?hy111) ?hn111; (case hw111 => rfl); (case hx111 => (simp only [Act.eval, zD, zA, zB, zC, zE]; (try rfl))); (case hy111 => (rw [hck wq hSq]; (try with_reducible rfl))); (try simp only [Act.put, zF, zG, zH]))
          (refine TD.val0 (v := ?v112) (by simp only [zA, zB, zC]; rfl) rfl ?hw112 (fun w1 => ?hy112) ?hn112; (case hw112 => rfl); (case hy112 => (go_simp; (try with_reducible rfl))); (try simp only [Act.put, zF, zG, zH]))
          (refine TD.val0 (v := ?v113) (by simp only [zA, zB, zC]; rfl) rfl ?hw113 (fun w1 => ?hy113) ?hn113; (case hw113 => rfl); (case hy113 => (go_simp; (try with_reducible rfl))); (try simp only [Act.put, zF, zG, zH]))
          refine TD.nil (fun w2 hr => ?_)
          replace kl := hr.mod.at kl (fun h => h)
          replace kr := hr.mod.at kr (fun h => h)
          replace kp4 := hr.mod.at kp4 (fun h => h)
          replace kp5 := hr.mod.at kp5 (fun h => h)
          replace hmm := hmm.then0 hr.mod
          replace HO := Lib.hid (HO.out.mod0 hr.mod)
          clear hcx hck hA hB
          have hne : decide (xk = xk) = true := decide_eq_true rfl
          have HST2 : Hid (O ++ rputL xk a false (L.drop (i + 1)) = rputL xk a d0 L) := Lib.hid (by
            have h := HST.out
            rw [hand, hor, if_pos rfl] at h
            simpa using h)
          go_upto_region 9 with fail
          have Lkl := lt_size kl
          have Lkr := lt_size kr
          have Lkp4 := lt_size kp4
          have Lkp5 := lt_size kp5
          refine wp_pass (C := fun _ _ _ => False) (κ := fun i => [0, 0, 0, 1, 0, 0, 0, 1, 1, 0].getD i 0) [0, 1, 2, 3, 4, 5, 6, 7, 8, 9] (by kernel_rfl) (by kernel_rfl) (fun _ _ d _ _ h => by cases d <;> first | exact h | exact absurd h (hP _ _ _)) ?_
          (refine TD.val0 (v := ?v114) (by simp only [zA, zB, zC]; rfl) rfl ?hw114 (fun w1 => ?hy114) ?hn114; (case hw114 => rfl); (case hy114 => (go_simp; (try with_reducible rfl))); (try simp only [Act.put, zF, zG, zH]))
          (refine TD.val0 (v := ?v115) (by simp only [zA, zB, zC]; rfl) rfl ?hw115 (fun w1 => ?hy115) ?hn115; (case hw115 => rfl); (case hy115 => (go_simp; (try with_reducible rfl))); (try simp only [Act.put, zF, zG, zH]))
          (refine TD.val0 (v := ?v116) (by simp only [zA, zB, zC]; rfl) rfl ?hw116 (fun w1 => ?hy116) ?hn116; (case hw116 => rfl); (case hy116 => (go_simp; (try with_reducible rfl))); (try simp only [Act.put, zF, zG, zH]))
          (refine TD.load (v := ?v117) (p := ?p117) (Mod.refl _ _) (by simp only [zA, zB, zC]; rfl) rfl ?hw117 rfl ?hx117 (fun wq hSq => ?hy117) ?hn117; (case hw117 => rfl); (case hx117 => (simp only [Act.eval, zD, zA, zB, zC, zE]; (try rfl))); (case hy117 => (have klq := hSq.at kl (fun h => h); have krq := hSq.at kr (fun h => h); have kp4q := hSq.at kp4 (fun h => h); have kp5q := hSq.at kp5 (fun h => h); go_simp; (try with_reducible rfl))); (try simp only [Act.put, zF, zG, zH]))
          (refine TD.val0 (v := ?v118) (by simp only [zA, zB, zC]; rfl) rfl ?hw118 (fun w1 => ?hy118) ?hn118; (case hw118 => rfl); (case hy118 => (go_simp; (try with_reducible rfl))); (try simp only [Act.put, zF, zG, zH]))
          (refine TD.val0 (v := ?v119) (by simp only [zA, zB, zC]; rfl) rfl ?hw119 (fun w1 => ?hy119) ?hn119; (case hw119 => rfl); (case hy119 => (go_simp; (try with_reducible rfl))); (try simp only [Act.put, zF, zG, zH]))
          (refine TD.val0 (v := ?v120) (by simp only [zA, zB, zC]; rfl) rfl ?hw120 (fun w1 => ?hy120) ?hn120; (case hw120 => rfl); (case hy120 => (go_simp; (try with_reducible rfl))); (try simp only [Act.put, zF, zG, zH]))
          (refine TD.load (v := ?v121) (p := ?p121) (Mod.refl _ _) (by simp only [zA, zB, zC]; rfl) rfl ?hw121 rfl ?hx121 (fun wq hSq => ?hy121) ?hn121; (case hw121 => rfl); (case hx121 => (simp only [Act.eval, zD, zA, zB, zC, zE]; (try rfl))); (case hy121 => (have klq := hSq.at kl (fun h => h); have krq := hSq.at kr (fun h => h); have kp4q := hSq.at kp4 (fun h => h); have kp5q := hSq.at kp5 (fun h => h); go_simp; (try with_reducible rfl))); (try simp only [Act.put, zF, zG, zH]))
          (refine TD.load (v := ?v122) (p := ?p122) (Mod.refl _ _) (by simp only [zA, zB, zC]; rfl) rfl ?hw122 rfl ?hx122 (fun wq hSq => ?hy122) ?hn122; (case hw122 => rfl); (case hx122 => (simp only [Act.eval, zD, zA, zB, zC, zE]; (try rfl))); (case hy122 => (have klq := hSq.at kl (fun h => h); have krq := hSq.at kr (fun h => h); have kp4q := hSq.at kp4 (fun h => h); have kp5q := hSq.at kp5 (fun h => h); go_simp; (try with_reducible rfl))); (try simp only [Act.put, zF, zG, zH]))
          (refine TD.val0 (v := ?v123) (by simp only [zA, zB, zC]; rfl) rfl ?hw123 (fun w1 => ?hy123) ?hn123; (case hw123 => rfl); (case hy123 => (go_simp; (try with_reducible rfl))); (try simp only [Act.put, zF, zG, zH]))
          refine TD.nil (fun w4 hr => ?_)
          replace kl := hr.mod.at kl (fun h => h)
          replace kr := hr.mod.at kr (fun h => h)
          replace kp4 := hr.mod.at kp4 (fun h => h)
          replace kp5 := hr.mod.at kp5 (fun h => h)
          replace hmm := hmm.then0 hr.mod
          replace HO := Lib.hid (HO.out.mod0 hr.mod)
          go_wp2_with fail
          go_roundw
          case rel => exact ⟨i + 1, _, false, by omega, by go_num, rfl, HO, HST2, Lib.hid (by have := HOL.out; omega), hmm⟩
          case measure => simp [intOf]; omega
        · obtain ⟨hA, hB⟩ := bytes_lt hq
          have hxk : ¬ xk = k := fun e => by rw [e, klt_irrefl] at hq; cases hq
          clear hq
          generalize bytesOfL xk.l = bx at *
          generalize bytesOfL k.l = bk at *
          go_upto_region 6 with fail
          have Lkl := lt_size kl
          have Lkr := lt_size kr
          have Lkp4 := lt_size kp4
          have Lkp5 := lt_size kp5
          refine wp_pass (C := fun _ _ _ => False) (κ := fun i => [0, 0, 0, 0, 0, 0, 1, 0, 0, 0, 0, 1, 0, 1, 0, 0].getD i 0) [0, 1, 2, 3, 4, 5, 6, 7, 8, 9, 10, 11, 12, 13, 14, 15] (by kernel_rfl) (by kernel_rfl) (fun _ _ d _ _ h => by cases d <;> first | exact h | exact absurd h (hP _ _ _)) ?_
          (refine TD.val0 (v := ?v124) (by simp only [zA, zB, zC]; rfl) rfl ?hw124 (fun w1 => ?hy124) ?hn124; (case hw124 => rfl); (case hy124 => (go_simp; (try with_reducible rfl))); (try simp only [Act.put, zF, zG, zH]))
          (refine TD.val0 (v := ?v125) (by simp only [zA, zB, zC]; rfl) rfl ?hw125 (fun w1 => ?hy125) ?hn125; (case hw125 => rfl); (case hy125 => (go_simp; (try with_reducible rfl))); (try simp only [Act.put, zF, zG, zH]))
          (refine TD.val0 (v := ?v126) (by simp only [zA, zB, zC]; rfl) rfl ?hw126 (fun w1 => ?hy126) ?hn126; (case hw126 => rfl); (case hy126 => (go_simp; (try with_reducible rfl))); (try simp only [Act.put, zF, zG, zH]))
          (refine TD.val0 (v := ?v127) (by simp only [zA, zB, zC]; rfl) rfl ?hw127 (fun w1 => ?hy127) ?hn127; (case hw127 => rfl); (case hy127 => (go_simp; (try with_reducible rfl))); (try simp only [Act.put, zF, zG, zH]))
          (refine TD.val0 (v := ?v128) (by simp only [zA, zB, zC]; rfl) rfl ?hw128 (fun w1 => ?hy128) ?hn128; (case hw128 => rfl); (case hy128 => (go_simp; (try with_reducible rfl))); (try simp only [Act.put, zF, zG, zH]))
          (refine TD.val0 (v := ?v129) (by simp only [zA, zB, zC]; rfl) rfl ?hw129 (fun w1 => ?hy129) ?hn129; (case hw129 => rfl); (case hy129 => (go_simp; (try with_reducible rfl))); (try simp only [Act.put, zF, zG, zH]))
          (refine TD.load (v := ?v130) (p := ?p130) (Mod.refl _ _) (by simp only [zA, zB, zC]; rfl) rfl ?hw130 rfl ?hx130 (fun wq hSq => ?hy130) ?hn130; (case hw130 => rfl); (case hx130 => (simp only [Act.eval, zD, zA, zB, zC, zE]; (try rfl))); (case hy130 => (have klq := hSq.at kl (fun h => h); have krq := hSq.at kr (fun h => h); have kp4q := hSq.at kp4 (fun h => h); have kp5q := hSq.at kp5 (fun h => h); go_simp; (try with_reducible rfl))); (try simp only [Act.put, zF, zG, zH]))
          (refine TD.val0 (v := ?v131) (by simp only [zA, zB, zC]; rfl) rfl ?hw131 (fun w1 => ?hy131) ?hn131; (case hw131 => rfl); (case hy131 => (go_simp; (try with_reducible rfl))); (try simp only [Act.put, zF, zG, zH]))
          (refine TD.val0 (v := ?v132) (by simp only [zA, zB, zC]; rfl) rfl ?hw132 (fun w1 => ?hy132) ?hn132; (case hw132 => rfl); (case hy132 => (go_simp; (try with_reducible rfl))); (try simp only [Act.put, zF, zG, zH]))
          (refine TD.val0 (v := ?v133) (by simp only [zA, zB, zC]; rfl) rfl ?hw133 (fun w1 => ?hy133) ?hn133; (case hw133 => rfl); (case hy133 => (go_simp; (try with_reducible rfl))); (try simp only [Act.put, zF, zG, zH]))
          (refine TD.val0 (v := ?v134) (by simp only [zA, zB, zC]; rfl) rfl ?hw134 (fun w1 => ?hy134) ?hn134; (case hw134 => rfl); (case hy134 => (go_simp; (try with_reducible rfl))); (try simp only [Act.put, zF, zG, zH]))
          (refine TD.conv (v := ?v135) (p := ?p135) (Mod.refl _ _) (by simp only [zA, zB, zC]; rfl) rfl ?hw135 rfl ?hx135 (fun wq hSq => ?hy135) ?hn135; (case hw135 => rfl); (case hx135 => (simp only [Act.eval, zD, zA, zB, zC, zE]; (try rfl))); (case hy135 => (rw [hcx wq hSq]; (try with_reducible rfl))); (try simp only [Act.put, zF, zG, zH]))
          (refine TD.val0 (v := ?v136) (by simp only [zA, zB, zC]; rfl) rfl ?hw136 (fun w1 => ?hy136) ?hn136; (case hw136 => rfl); (case hy136 => (go_simp; (try with_reducible rfl))); (try simp only [Act.put, zF, zG, zH]))
          (refine TD.conv (v := ?v137) (p := ?p137) (Mod.refl _ _) (by simp only [zA, zB, zC]; rfl) rfl ?hw137 rfl ?hx137 (fun wq hSq => ?hy137) ?hn137; (case hw137 => rfl); (case hx137 => (simp only [Act.eval, zD, zA, zB, zC, zE]; (try rfl))); (case hy137 => (rw [hck wq hSq]; (try with_reducible rfl))); (try simp only [Act.put, zF, zG, zH]))
          (refine TD.val0 (v := ?v138) (by simp only [zA, zB, zC]; rfl) rfl ?hw138 (fun w1 => ?hy138) ?hn138; (case hw138 => rfl); (case hy138 => (go_simp; (try with_reducible rfl))); (try simp only [Act.put, zF, zG, zH]))
          (refine TD.val0 (v := ?v139) (by simp only [zA, zB, zC]; rfl) rfl ?hw139 (fun w1 => ?hy139) ?hn139; (case hw139 => rfl); (case hy139 => (go_simp; (try with_reducible rfl))); (try simp only [Act.put, zF, zG, zH]))
          refine TD.nil (fun w2 hr => ?_)
          replace kl := hr.mod.at kl (fun h => h)
          replace kr := hr.mod.at kr (fun h => h)
          replace kp4 := hr.mod.at kp4 (fun h => h)
          replace kp5 := hr.mod.at kp5 (fun h => h)
          replace hmm := hmm.then0 hr.mod
          replace HO := Lib.hid (HO.out.mod0 hr.mod)
          clear hcx hck hA hB
          have hne : decide (xk = k) = false := decide_eq_false hxk
          have HST2 : Hid ((O ++ [(⟨xk, xa⟩ : Hold)]) ++ rputL k a false (L.drop (i + 1)) = rputL k a d0 L) := Lib.hid (by
            have h := HST.out
            rw [hand, hor, if_neg hxk] at h
            simpa using h)
          clear HST hxk
          have hb9 : decide (xk = k) = false := hne
          go_upto_region 9 with fail
          have Lkl := lt_size kl
          have Lkr := lt_size kr
          have Lkp4 := lt_size kp4
          have Lkp5 := lt_size kp5
          refine wp_pass (C := fun _ _ _ => False) (κ := fun i => [0, 0, 0, 1, 0, 0, 0, 1, 1, 0].getD i 0) [0, 1, 2, 3, 4, 5, 6, 7, 8, 9] (by kernel_rfl) (by kernel_rfl) (fun _ _ d _ _ h => by cases d <;> first | exact h | exact absurd h (hP _ _ _)) ?_
          (refine TD.val0 (v := ?v140) (by simp only [zA, zB, zC]; rfl) rfl ?hw140 (fun w1 => ?hy140) ?hn140; (case hw140 => rfl); (case hy140 => (go_simp; (try with_reducible rfl))); (try simp only [Act.put, zF, zG, zH]))
          (refine TD.val0 (v := ?v141) (by simp only [zA, zB, zC]; rfl) rfl ?hw141 (fun w1 => ?hy141) ?hn141; (case hw141 => rfl); (case hy141 => (go_simp; (try with_reducible rfl))); (try simp only [Act.put, zF, zG, zH]))
          (refine TD.val0 (v := ?v142) (by simp only [zA, zB, zC]; rfl) rfl ?hw142 (fun w1 => ?hy142) ?hn142; (case hw142 => rfl); (case hy142 => (go_simp; (try with_reducible rfl))); (try simp only [Act.put, zF, zG, zH]))
          (refine TD.load (v := ?v143) (p := ?p143) (Mod.refl _ _) (by simp only [zA, zB, zC]; rfl) rfl ?hw143 rfl ?hx143 (fun wq hSq => ?hy143) ?hn143; (case hw143 => rfl); (case hx143 => (simp only [Act.eval, zD, zA, zB, zC, zE]; (try rfl))); (case hy143 => (have klq := hSq.at kl (fun h => h); have krq := hSq.at kr (fun h => h); have kp4q := hSq.at kp4 (fun h => h); have kp5q := hSq.at kp5 (fun h => h); go_simp; (try with_reducible rfl))); (try simp only [Act.put, zF, zG, zH]))
          (refine TD.val0 (v := ?v144) (by simp only [zA, zB, zC]; rfl) rfl ?hw144 (fun w1 => ?hy144) ?hn144; (case hw144 => rfl); (case hy144 => (go_simp; (try with_reducible rfl))); (try simp only [Act.put, zF, zG, zH]))
          (refine TD.val0 (v := ?v145) (by simp only [zA, zB, zC]; rfl) rfl ?hw145 (fun w1 => ?hy145) ?hn145; (case hw145 => rfl); (case hy145 => (go_simp; (try with_reducible rfl))); (try simp only [Act.put, zF, zG, zH]))
          (refine TD.val0 (v := ?v146) (by simp only [zA, zB, zC]; rfl) rfl ?hw146 (fun w1 => ?hy146) ?hn146; (case hw146 => rfl); (case hy146 => (go_simp; (try with_reducible rfl))); (try simp only [Act.put, zF, zG, zH]))
          (refine TD.load (v := ?v147) (p := ?p147) (Mod.refl _ _) (by simp only [zA, zB, zC]; rfl) rfl ?hw147 rfl ?hx147 (fun wq hSq => ?hy147) ?hn147; (case hw147 => rfl); (case hx147 => (simp only [Act.eval, zD, zA, zB, zC, zE]; (try rfl))); (case hy147 => (have klq := hSq.at kl (fun h => h); have krq := hSq.at kr (fun h => h); have kp4q := hSq.at kp4 (fun h => h); have kp5q := hSq.at kp5 (fun h => h); go_simp; (try with_reducible rfl))); (try simp only [Act.put, zF, zG, zH]))
          (refine TD.load (v := ?v148) (p := ?p148) (Mod.refl _ _) (by simp only [zA, zB, zC]; rfl) rfl ?hw148 rfl ?hx148 (fun wq hSq => ?hy148) ?hn148; (case hw148 => rfl); (case hx148 => (simp only [Act.eval, zD, zA, zB, zC, zE]; (try rfl))); (case hy148 => (have klq := hSq.at kl (fun h => h); have krq := hSq.at kr (fun h => h); have kp4q := hSq.at kp4 (fun h => h); have kp5q := hSq.at kp5 (fun h => h); go_simp; (try with_reducible rfl))); (try simp only [Act.put, zF, zG, zH]))
          (refine TD.val0 (v := ?v149) (by simp only [zA, zB, zC]; rfl) rfl ?hw149 (fun w1 => ?hy149) ?hn149; (case hw149 => rfl); (case hy149 => (go_simp; (try with_reducible rfl))); (try simp only [Act.put, zF, zG, zH]))
          refine TD.nil (fun w4 hr => ?_)
          replace kl := hr.mod.at kl (fun h => h)
          replace kr := hr.mod.at kr (fun h => h)
          replace kp4 := hr.mod.at kp4 (fun h => h)
          replace kp5 := hr.mod.at kp5 (fun h => h)
          replace hmm := hmm.then0 hr.mod
          replace HO := Lib.hid (HO.out.mod0 hr.mod)
          clear hb9
          have hbs := bsHold ⟨xk, xa⟩ w4
          have mal := (Mod.refl (fun _ => False) w4).alloc (.cells (hd ⟨xk, xa⟩) 155)
          have hone := oneNew w4 ⟨xk, xa⟩
          obtain ⟨v5, w5, hap, hO5, m5, hn5⟩ := SlOwn.append holdT (q := [⟨xk, xa⟩]) (c := 1) (HO.out.mod0 mal) hone HL2.out.2.2 (by decide) (Nat.le_trans HB.out (Nat.le_trans hmm.size mal.size)) 22
          have hap : (Builtin.append_ #[22, 22] 22 #[_, .slice (some ⟨w4.heap.size, 0, none⟩) 1 1]).run Try.prog _ = _ := hap
          have hol := HO.out.lt
          have hmm5 : Mod (fun _ => False) w1 w5 := (hmm.then0 mal).then m5 (fun i hi e => by have := hol i e; have := HB.out; omega)
          go_upto_region 10 with fail
          refine region_seq 11 rfl ?_
          simp only [List.range, List.range.loop]
          (refine sq_val (v := ?v150) (by simp only [zA, zB, zC]; rfl) ?hw150 ?hy150 ?hn150; (case hw150 => rfl); (case hy150 => (go_simp; (try with_reducible rfl))); (try simp only [Act.put, zF, zG, zH]))
          (refine sq_val (v := ?v151) (by simp only [zA, zB, zC]; rfl) ?hw151 ?hy151 ?hn151; (case hw151 => rfl); (case hy151 => (go_simp; (try with_reducible rfl))); (try simp only [Act.put, zF, zG, zH]))
          (refine sq_val (v := ?v152) (by simp only [zA, zB, zC]; rfl) ?hw152 ?hy152 ?hn152; (case hw152 => rfl); (case hy152 => (go_simp; (try with_reducible rfl))); (try simp only [Act.put, zF, zG, zH]))
          (refine sq_val (v := ?v153) (by simp only [zA, zB, zC]; rfl) ?hw153 ?hy153 ?hn153; (case hw153 => rfl); (case hy153 => (go_simp; (try with_reducible rfl))); (try simp only [Act.put, zF, zG, zH]))
          (refine sq_load (v := ?v154) (p := ?p154) (by simp only [zA, zB, zC]; rfl) ?hw154 rfl ?hx154 ?hy154 ?hn154; (case hw154 => rfl); (case hx154 => (simp only [Act.eval, zD, zA, zB, zC, zE]; (try rfl))); (case hy154 => (go_simp; (try with_reducible rfl))); (try simp only [Act.put, zF, zG, zH]))
          (refine sq_val (v := ?v155) (by simp only [zA, zB, zC]; rfl) ?hw155 ?hy155 ?hn155; (case hw155 => rfl); (case hy155 => (go_simp; (try with_reducible rfl))); (try simp only [Act.put, zF, zG, zH]))
          (refine sq_val (v := ?v156) (by simp only [zA, zB, zC]; rfl) ?hw156 ?hy156 ?hn156; (case hw156 => rfl); (case hy156 => (go_simp; (try with_reducible rfl))); (try simp only [Act.put, zF, zG, zH]))
          (refine sq_load (v := ?v157) (p := ?p157) (by simp only [zA, zB, zC]; rfl) ?hw157 rfl ?hx157 ?hy157 ?hn157; (case hw157 => rfl); (case hx157 => (simp only [Act.eval, zD, zA, zB, zC, zE]; (try rfl))); (case hy157 => (go_simp; (try with_reducible rfl))); (try simp only [Act.put, zF, zG, zH]))
          (refine sq_build (by simp only [zA, zB, zC]; rfl) ?hw158 rfl ?hx158 hbs ?hn158; (case hw158 => rfl); (case hx158 => (simp only [List.map_toArray, List.map_cons, List.map_nil, Act.eval, zD, zA, zB, zC, zE]; (try rfl))); (try simp only [Act.put, zF, zG, zH]))
          (refine sq_append (by simp only [zA, zB, zC]; rfl) ?hw159 rfl ?hx159 ?hz159 hap ?hn159; (case hw159 => rfl); (case hx159 => (simp only [Act.eval, zD, zA, zB, zC, zE]; (try rfl))); (case hz159 => (simp only [Act.eval, zD, zA, zB, zC, zE]; (try rfl))); (try simp only [Act.put, zF, zG, zH]))
          (refine sq_val (v := ?v160) (by simp only [zA, zB, zC]; rfl) ?hw160 ?hy160 ?hn160; (case hw160 => rfl); (case hy160 => (go_simp; (try with_reducible rfl))); (try simp only [Act.put, zF, zG, zH]))
          refine sq_nil ?_
          replace kr := hmm5.at0 KR.out
          replace kp4 := hmm5.at0 K4.out
          replace kp5 := hmm5.at0 K5.out
          replace hmm := hmm5
          replace HO := Lib.hid hO5
          clear hbs mal hone hap hol hmm5 hO5 m5 hn5
          go_wp2_with fail
          go_roundw
          case rel => exact ⟨i + 1, _, false, by omega, by go_num, rfl, HO, HST2, Lib.hid (by have := HOL.out; simp; omega), hmm⟩
          case measure => simp [intOf]; omega
    · obtain rfl : i = L.length := by omega
      rw [List.drop_length] at HE
      have HL1 : Hid (O.length + [(⟨k, a⟩ : Hold)].length ≤ 1000000) := Lib.hid (by
        have := HOL.out
        simp only [List.length_cons, List.length_nil]
        omega)
      have m1r : Mod (fun i => i = r) w w1 := m1.mono (fun _ _ h => h.elim)
      cases d with
      | true =>
        have HR : Hid (O = rputL k a d0 L) := Lib.hid (by have h := HE.out; simpa [rputL] using h)
        obtain ⟨oa, oc, rfl, _⟩ := HO.out.at holdT
        have hlr := HO.out.lt
        have hrr : r < w1.heap.size := lt_size KR.out
        go_upto_region 13 with fail
        have Lkr := lt_size kr
        refine wp_pass0 (C := fun _ _ _ => False) (κ := fun i => [0, 0, 0, 0, 5].getD i 0) [0, 1, 2, 3, 4] (by kernel_rfl) (by kernel_rfl) (fun _ _ d _ _ h => by cases d <;> first | exact h | exact absurd h (hP _ _ _)) ?_
        (refine TD.val0 (v := ?v161) (by simp only [zA, zB, zC]; rfl) rfl ?hw161 (fun w1 => ?hy161) ?hn161; (case hw161 => rfl); (case hy161 => (go_simp; (try with_reducible rfl))); (try simp only [Act.put, zF, zG, zH]))
        (refine TD.val0 (v := ?v162) (by simp only [zA, zB, zC]; rfl) rfl ?hw162 (fun w1 => ?hy162) ?hn162; (case hw162 => rfl); (case hy162 => (go_simp; (try with_reducible rfl))); (try simp only [Act.put, zF, zG, zH]))
        (refine TD.val0 (v := ?v163) (by simp only [zA, zB, zC]; rfl) rfl ?hw163 (fun w1 => ?hy163) ?hn163; (case hw163 => rfl); (case hy163 => (go_simp; (try with_reducible rfl))); (try simp only [Act.put, zF, zG, zH]))
        (refine TD.val0 (v := ?v164) (by simp only [zA, zB, zC]; rfl) rfl ?hw164 (fun w1 => ?hy164) ?hn164; (case hw164 => rfl); (case hy164 => (go_simp; (try with_reducible rfl))); (try simp only [Act.put, zF, zG, zH]))
        refine TD.eff (by simp only [zA, zB, zC]; rfl) rfl (fun wE hr => ?_)
        replace kr := hr.mod.at0 kr
        have mE := hr.mod
        (refine eff_store (X := ?X165) (Y := ?Y165) (w' := ?w165) (by simp only [zA, zB, zC]; rfl) ?hw165 rfl ?hx165 ?hz165 ?hy165 ?hn165; (case hw165 => rfl); (case hx165 => (simp only [Act.eval, zD, zA, zB, zC, zE]; (try rfl))); (case hz165 => (simp only [Act.eval, zD, zA, zB, zC, zE]; (try rfl))); (case hy165 => (go_simp; (try with_reducible rfl))))
        (first | refine TE.nil_set kr (fun w6 kr mS => ?_) | refine TE.nil_setCell kr (fun w6 kr mS => ?_))
        (try simp only [Array.setIfInBounds, zF, zG, zH] at kr)
        have hO6 := (HO.out.mod0 mE).mod mS (fun b hb e => by have := hlr b hb; omega)
        have mF : Mod (fun i => i = r) w w6 := (m1r.then0 hmm).then0 mE |>.then mS (fun i _ e => e)
        go_wp2_with fail
        have hO7 := hO6.base0
        (try simp only [List.length_append, List.length_cons, List.length_nil, Nat.zero_add] at hO7)
        go_end0
        exact ⟨rfl, by rw [HD0.out, ← HR.out]; exact ⟨_, kr, hO7⟩, mF⟩
      | false =>
        have HR : Hid (O ++ [(⟨k, a⟩ : Hold)] = rputL k a d0 L) := Lib.hid (by have h := HE.out; simpa [rputL] using h)
        have hbl := buildHold k a
        have hbs := bsHold ⟨k, a⟩ wr
        have mal := (Mod.refl (fun _ => False) wr).alloc (.cells (hd ⟨k, a⟩) 155)
        have hone := oneNew wr ⟨k, a⟩
        obtain ⟨v3, w3, hap, hO5, m5, hn5⟩ := SlOwn.append holdT (q := [⟨k, a⟩]) (c := 1) (HO.out.mod0 mal) hone HL1.out (by decide) (Nat.le_trans HB.out (Nat.le_trans hmm.size mal.size)) 22
        have hap : (Builtin.append_ #[22, 22] 22 #[_, .slice (some ⟨wr.heap.size, 0, none⟩) 1 1]).run Try.prog _ = _ := hap
        have hol := HO.out.lt
        have hmm5 : Mod (fun _ => False) w1 w3 := (hmm.then0 mal).then m5 (fun i hi e => by have := hol i e; have := HB.out; omega)
        go_upto_region 12 with fail
        refine region_seq 7 rfl ?_
        simp only [List.range, List.range.loop]
        (refine sq_val (v := ?v166) (by simp only [zA, zB, zC]; rfl) ?hw166 ?hy166 ?hn166; (case hw166 => rfl); (case hy166 => (go_simp; (try with_reducible rfl))); (try simp only [Act.put, zF, zG, zH]))
        (refine sq_load (v := ?v167) (p := ?p167) (by simp only [zA, zB, zC]; rfl) ?hw167 rfl ?hx167 ?hy167 ?hn167; (case hw167 => rfl); (case hx167 => (simp only [Act.eval, zD, zA, zB, zC, zE]; (try rfl))); (case hy167 => (go_simp; (try with_reducible rfl))); (try simp only [Act.put, zF, zG, zH]))
        (refine sq_load (v := ?v168) (p := ?p168) (by simp only [zA, zB, zC]; rfl) ?hw168 rfl ?hx168 ?hy168 ?hn168; (case hw168 => rfl); (case hx168 => (simp only [Act.eval, zD, zA, zB, zC, zE]; (try rfl))); (case hy168 => (go_simp; (try with_reducible rfl))); (try simp only [Act.put, zF, zG, zH]))
        (refine sq_bld (by simp only [zA, zB, zC]; rfl) ?hw169 rfl ?hx169 (hbl _) ?hn169; (case hw169 => rfl); (case hx169 => (simp only [List.map_toArray, List.map_cons, List.map_nil, Act.eval, zD, zA, zB, zC, zE]; (try rfl))); (try simp only [Act.put, zF, zG, zH]))
        (refine sq_build (by simp only [zA, zB, zC]; rfl) ?hw170 rfl ?hx170 hbs ?hn170; (case hw170 => rfl); (case hx170 => (simp only [List.map_toArray, List.map_cons, List.map_nil, Act.eval, zD, zA, zB, zC, zE]; (try rfl))); (try simp only [Act.put, zF, zG, zH]))
        (refine sq_append (by simp only [zA, zB, zC]; rfl) ?hw171 rfl ?hx171 ?hz171 hap ?hn171; (case hw171 => rfl); (case hx171 => (simp only [Act.eval, zD, zA, zB, zC, zE]; (try rfl))); (case hz171 => (simp only [Act.eval, zD, zA, zB, zC, zE]; (try rfl))); (try simp only [Act.put, zF, zG, zH]))
        (refine sq_val (v := ?v172) (by simp only [zA, zB, zC]; rfl) ?hw172 ?hy172 ?hn172; (case hw172 => rfl); (case hy172 => (go_simp; (try with_reducible rfl))); (try simp only [Act.put, zF, zG, zH]))
        refine sq_nil ?_
        replace kr := hmm5.at0 KR.out
        replace kp4 := hmm5.at0 K4.out
        replace kp5 := hmm5.at0 K5.out
        replace hmm := hmm5
        replace HO := Lib.hid hO5
        clear hbs mal hone hap hol hmm5 hO5 m5 hn5
        clear hbl
        obtain ⟨oa, oc, rfl, _⟩ := HO.out.at holdT
        have hlr := HO.out.lt
        have hrr : r < w1.heap.size := lt_size KR.out
        go_upto_region 13 with fail
        have Lkr := lt_size kr
        refine wp_pass0 (C := fun _ _ _ => False) (κ := fun i => [0, 0, 0, 0, 5].getD i 0) [0, 1, 2, 3, 4] (by kernel_rfl) (by kernel_rfl) (fun _ _ d _ _ h => by cases d <;> first | exact h | exact absurd h (hP _ _ _)) ?_
        (refine TD.val0 (v := ?v173) (by simp only [zA, zB, zC]; rfl) rfl ?hw173 (fun w1 => ?hy173) ?hn173; (case hw173 => rfl); (case hy173 => (go_simp; (try with_reducible rfl))); (try simp only [Act.put, zF, zG, zH]))
        (refine TD.val0 (v := ?v174) (by simp only [zA, zB, zC]; rfl) rfl ?hw174 (fun w1 => ?hy174) ?hn174; (case hw174 => rfl); (case hy174 => (go_simp; (try with_reducible rfl))); (try simp only [Act.put, zF, zG, zH]))
        (refine TD.val0 (v := ?v175) (by simp only [zA, zB, zC]; rfl) rfl ?hw175 (fun w1 => ?hy175) ?hn175; (case hw175 => rfl); (case hy175 => (go_simp; (try with_reducible rfl))); (try simp only [Act.put, zF, zG, zH]))
        (refine TD.val0 (v := ?v176) (by simp only [zA, zB, zC]; rfl) rfl ?hw176 (fun w1 => ?hy176) ?hn176; (case hw176 => rfl); (case hy176 => (go_simp; (try with_reducible rfl))); (try simp only [Act.put, zF, zG, zH]))
        refine TD.eff (by simp only [zA, zB, zC]; rfl) rfl (fun wE hr => ?_)
        replace kr := hr.mod.at0 kr
        have mE := hr.mod
        (refine eff_store (X := ?X177) (Y := ?Y177) (w' := ?w177) (by simp only [zA, zB, zC]; rfl) ?hw177 rfl ?hx177 ?hz177 ?hy177 ?hn177; (case hw177 => rfl); (case hx177 => (simp only [Act.eval, zD, zA, zB, zC, zE]; (try rfl))); (case hz177 => (simp only [Act.eval, zD, zA, zB, zC, zE]; (try rfl))); (case hy177 => (go_simp; (try with_reducible rfl))))
        (first | refine TE.nil_set kr (fun w6 kr mS => ?_) | refine TE.nil_setCell kr (fun w6 kr mS => ?_))
        (try simp only [Array.setIfInBounds, zF, zG, zH] at kr)
        have hO6 := (HO.out.mod0 mE).mod mS (fun b hb e => by have := hlr b hb; omega)
        have mF : Mod (fun i => i = r) w w6 := (m1r.then0 hmm).then0 mE |>.then mS (fun i _ e => e)
        go_wp2_with fail
        have hO7 := hO6.base0
        (try simp only [List.length_append, List.length_cons, List.length_nil, Nat.zero_add] at hO7)
        go_end0
        exact ⟨rfl, by rw [HD0.out, ← HR.out]; exact ⟨_, kr, hO7⟩, mF⟩
end Go.Proofs.Ytofpnmoeimjnnaa
namespace Go.Proofs.Ytofpnmoeimjnnaa
open Go.RowKit
open Go.ChangeMaps (setBlock)
set_option linter.unusedSimpArgs false
set_option linter.unusedVariables false
attribute [local go_sem ↓] wlKey ldKey stKey wlAcct ldAcct stAcct wlHold ldHold stHold wlHash ldHash stHash wlSig ldSig stSig wlLim ldLim stLim wlRdy ldRdy stRdy wlOut ldOut stOut wlTd ldTd stTd wlTx ldTx stTx eqKey1
attribute [local go_sem] eqMap neMap av_size av_all av_one hd_size hd_key hd_acct hd_all hd_one zKey_size zAcct_size zHold_size zHash_size zSg_size zLim_size zRdy_size zOut_size zTried_size zTx_size cell_blk frozen_blk kc_ext one_int one_bool one_ptr one_slice one_map kc_one kc_one0 kc_size sgc_size sgc_ext sgc_one0 sgc_one' rdr_size rdr_all rdr_one rdr_tx rdr_rec rdr0 rdr1 rdr6 rdr39 rdr40 rdr41 rdr0' rdr1' rdr6' rdr39' rdr40' rdr41' ocr_size ocr_all ocr_one ocr2 ocr3 ocr4 ocr5 ocr2' ocr3' ocr4' ocr5' tdr_size tdr_all tdr_one tdr_r tdr_o tdr_tx tdr_rec tdr0 tdr1 tdr41 tdr50 tdr51 tdr52 tdr53 tdr0' tdr1' tdr41' tdr50' tdr51' tdr52' tdr53' txr_size txr_all txr_one txr0 txr38 txr39 txr0' txr38' txr39' Value.cells
attribute [local go_sem ↓] eqHash eqSig eqAcct eqHold
attribute [local go_sem] zHash_ext zHash_one0 eqMapS neMapS
theorem eff_callP {P : Program} {ops : Array Oper} {Q : Exit → Act → World → Prop} {κ : Nat → Nat} {i : Nat} {r : List Nat} {a : Act} {o : Oper} {w : World} {f : FuncId} {args : Array Value} {v : Value} {Post : World → Prop} (ho : ops[i]? = some o) (hw : Region.wanted o (yielded ops a.tmps) = true)
    (hy : (execOp a.eval o).run P w = .ok (.enter f args) w) (hc : Calls P f args w fun e w' => e = .returned v ∧ Post w') (hn : ∀ w', Post w' → TE P ops Q κ r (a.put o.dst v) w') : wpOp P ops Q i (fun a' w'' => TE P ops Q κ r a' w'') a w := by
  unfold wpOp
  simp only [ho, hw, if_true]
  refine .inl ?_
  unfold Oper.wp
  rw [hy]
  refine hc.mono ?_
  rintro e w' ⟨rfl, hp⟩
  exact hn w' hp
theorem rputL_len (k : Key) (a : Acct) : ∀ (L : List Hold) (d : Bool), (rputL k a d L).length ≤ L.length + (if d then 0 else 1)
  | [], d => by cases d <;> simp [rputL]
  | h :: r, d => by
    have ih := rputL_len k a r (d || klt k h.k)
    simp only [rputL, List.length_append, List.length_cons]
    generalize klt k h.k = z at *
    by_cases he : h.k = k
    · rw [if_pos he]
      cases d <;> cases z <;> simp at ih ⊢ <;> omega
    · rw [if_neg he]
      cases d <;> cases z <;> simp at ih ⊢ <;> omega
def stL (l : List Hold) : List (Key × Acct) := l.foldl (fun m h => putA m h.k h.a) []
theorem stL_snoc {l : List Hold} {i : Nat} {x : Hold} (hx : l[i]? = some x) : stL (l.take (i + 1)) = putA (stL (l.take i)) x.k x.a := by
  rw [List.take_add_one, hx]
  simp [stL]
theorem hold_at {w : World} {a : Option Addr} {l : List Hold} (h : SlAt hd 66 w a l) {i : Nat} {x : Hold} (hx : l[i]? = some x) : ∃ g o C U fr, a = some ⟨g, o, none⟩ ∧ w.heap[g]? = some (.cells C U fr) ∧ C.extract (o + i * 66) (o + i * 66 + 32) = kc x.k ∧ C.extract (o + i * 66 + 32) (o + i * 66 + 32 + 34) = av x.a ∧ o + i * 66 + 66 ≤ C.size := by
  obtain ⟨g, o, C, U, fr, e, hk, he, hle⟩ := h.block hx
  obtain ⟨e1, e2⟩ := hd_part he
  exact ⟨g, o, C, U, fr, e, hk, e1, e2, hle⟩
set_option maxRecDepth 20000 in
set_option maxHeartbeats 3200000 in
theorem stores_c (a : Option Addr) (l : List Hold) (c : Nat) (w : World) (hl : SlAt hd 66 w a l) (hn : l.length ≤ 200) (ha : ∀ x, a = some x → x.block < w.heap.size ∨ l = []) : Calls Try.prog 26 #[.slice a l.length c] w fun e w' => ∃ p b r, e = .returned (.tuple #[ptrV p, ptrV r]) ∧ w.heap.size ≤ p ∧ w.heap.size ≤ b ∧ w.heap.size ≤ r ∧ StAt w' p b (stL l) ∧ (∃ R, RAt w' r R) ∧ Mod (fun _ => False) w w' := by
  have hb : ∀ w, (Instr.build 150 #[]).run Try.prog w = .ok (.agg #[.slice none 0 0]) w := fun w => by kernel_rfl
  have HL := Lib.hid hl
  have HA := Lib.hid ha
  clear hl ha
  generalize hll : l.length = ll at *
  have HLL := Lib.hid hll
  clear hll
  go_enter Try.func26, Try.ntmps26
  go_wp2_with fail
  go_at_call 24
  refine (newS_c _).mono ?_
  rintro e w1 ⟨p, b, rfl, hp, hbb, hS, m1⟩
  go_upto_region 2 with fail
  refine wp_pass0 (C := fun _ _ _ => False) (κ := fun i => [0, 3, 0].getD i 0) [0, 1, 2] (by kernel_rfl) (by kernel_rfl) (fun _ _ d _ _ h => by cases d <;> first | exact h | exact absurd h (hP _ _ _)) ?_
  (refine TD.build (v := ?v1) (ps := ?p1) (by simp only [zA, zB, zC]; rfl) rfl ?hw1 rfl ?hx1 (fun w1 => ?hy1) ?hn1; (case hw1 => rfl); (case hx1 => (simp only [List.map_toArray, List.map_cons, List.map_nil, Act.eval, zD, zA, zB, zC, zE]; (try rfl))); (case hy1 => (rw [hb]; (try with_reducible rfl))); (try simp only [Act.put, zF, zG, zH]))
  (refine TD.box (v := ?v2) (by simp only [zA, zB, zC]; rfl) rfl ?hw2 rfl rfl ?hx2 (fun p9 hp9 => ?hn2); (case hw2 => rfl); (case hx2 => (simp only [Act.eval, zD, zA, zB, zC, zE]; (try rfl))); (try simp only [Act.put, zF, zG, zH]))
  (refine TD.val0 (v := ?v3) (by simp only [zA, zB, zC]; rfl) rfl ?hw3 (fun w1 => ?hy3) ?hn3; (case hw3 => rfl); (case hy3 => (go_simp; (try with_reducible rfl))); (try simp only [Act.put, zF, zG, zH]))
  refine TD.nil (fun w2 hr => ?_)
  have kp9 := hr.box p9 _ (by first | exact Bx.set_same _ _ _ | (simp only [Bx.set_same]; rfl)); dsimp only [Value.cells] at kp9; obtain ⟨gp9, kp9⟩ := kp9
  have m2 := m1.then0 hr.mod
  have hS2 := hS.mod0 hr.mod
  have hR2 : RAt w2 p9 [] := ⟨_, kp9, SlOwn.nil _ _⟩
  have hp9 := Nat.le_trans m1.size gp9
  have hlt2 := hS2.lt
  have hlt3 := hS.lt
  have hpr : p9 ≠ p ∧ p9 ≠ b := ⟨by omega, by omega⟩
  have HS2 := Lib.hid hS2
  have HR2 := Lib.hid hR2
  have HM2 := Lib.hid m2
  clear hr hS hS2 hR2 m1 m2 hb kp9 gp9
  go_wp2_with fail
  go_loopw [6] (fun s6 ws => ∃ i : Nat, i ≤ ll ∧ s6 = .int .i64 (i : Int) ∧ Hid (StAt ws p b (stL (l.take i))) ∧ Hid (∃ R, RAt ws p9 R ∧ R.length ≤ i) ∧ Hid (Mod (fun i => i = b ∨ i = p9) w2 ws)) (fun s6 _ => ll - (intOf s6).toNat)
  case atStart => exact ⟨0, Nat.zero_le _, rfl, HS2, Lib.hid ⟨[], HR2.out, by simp⟩, Lib.hid (Mod.refl _ _)⟩
  case round =>
    obtain ⟨i, hi, rfl, HSt, HRt, hm⟩ := hrel
    have hmw : Mod (fun _ => False) w wr := HM2.out.then hm.out (fun j hj e => by rcases e with e | e <;> omega)
    by_cases hlt : i < ll
    · have hd := decide_eq_true hlt
      obtain ⟨x, hx⟩ : ∃ x, l[i]? = some x := ⟨_, List.getElem?_eq_getElem (by rw [HLL.out]; exact hlt)⟩
      obtain ⟨g, o, C, U, fr, rfl, kl, e1, e2, hle⟩ := hold_at (HL.out.mod0 hmw) hx
      have hgw : g < w.heap.size := by
        rcases HA.out _ rfl with h | h
        · exact h
        · have := HLL.out
          rw [h] at this
          simp at this
          omega
      have d1 : o + i * 66 + 32 ≤ C.size := by omega
      have d2 : o + i * 66 + 32 + 34 ≤ C.size := by omega
      have HX := Lib.hid hx
      clear hx hle hmw
      obtain ⟨xk, xa⟩ := x
      dsimp only at e1 e2
      have hlt2 := HSt.out.lt
      go_upto_region 6 with fail
      have Lkl := lt_size kl
      refine wp_pass (C := fun _ _ _ => False) (κ := fun i => [0, 0, 0, 0, 0, 1, 0, 0, 0, 0, 1, 5].getD i 0) [0, 1, 2, 3, 4, 5, 6, 7, 8, 9, 10, 11] (by kernel_rfl) (by kernel_rfl) (fun _ _ d _ _ h => by cases d <;> first | exact h | exact absurd h (hP _ _ _)) ?_
      (refine TD.val0 (v := ?v4) (by simp only [zA, zB, zC]; rfl) rfl ?hw4 (fun w1 => ?hy4) ?hn4; (case hw4 => rfl); (case hy4 => (go_simp; (try with_reducible rfl))); (try simp only [Act.put, zF, zG, zH]))
      (refine TD.val0 (v := ?v5) (by simp only [zA, zB, zC]; rfl) rfl ?hw5 (fun w1 => ?hy5) ?hn5; (case hw5 => rfl); (case hy5 => (go_simp; (try with_reducible rfl))); (try simp only [Act.put, zF, zG, zH]))
      (refine TD.val0 (v := ?v6) (by simp only [zA, zB, zC]; rfl) rfl ?hw6 (fun w1 => ?hy6) ?hn6; (case hw6 => rfl); (case hy6 => (go_simp; (try with_reducible rfl))); (try simp only [Act.put, zF, zG, zH]))
      (refine TD.val0 (v := ?v7) (by simp only [zA, zB, zC]; rfl) rfl ?hw7 (fun w1 => ?hy7) ?hn7; (case hw7 => rfl); (case hy7 => (go_simp; (try with_reducible rfl))); (try simp only [Act.put, zF, zG, zH]))
      (refine TD.val0 (v := ?v8) (by simp only [zA, zB, zC]; rfl) rfl ?hw8 (fun w1 => ?hy8) ?hn8; (case hw8 => rfl); (case hy8 => (go_simp; (try with_reducible rfl))); (try simp only [Act.put, zF, zG, zH]))
      (refine TD.load (v := ?v9) (p := ?p9) (Mod.refl _ _) (by simp only [zA, zB, zC]; rfl) rfl ?hw9 rfl ?hx9 (fun wq hSq => ?hy9) ?hn9; (case hw9 => rfl); (case hx9 => (simp only [Act.eval, zD, zA, zB, zC, zE]; (try rfl))); (case hy9 => (have klq := hSq.at kl (fun h => h); go_simp; (try with_reducible rfl))); (try simp only [Act.put, zF, zG, zH]))
      (refine TD.val0 (v := ?v10) (by simp only [zA, zB, zC]; rfl) rfl ?hw10 (fun w1 => ?hy10) ?hn10; (case hw10 => rfl); (case hy10 => (go_simp; (try with_reducible rfl))); (try simp only [Act.put, zF, zG, zH]))
      (refine TD.val0 (v := ?v11) (by simp only [zA, zB, zC]; rfl) rfl ?hw11 (fun w1 => ?hy11) ?hn11; (case hw11 => rfl); (case hy11 => (go_simp; (try with_reducible rfl))); (try simp only [Act.put, zF, zG, zH]))
      (refine TD.val0 (v := ?v12) (by simp only [zA, zB, zC]; rfl) rfl ?hw12 (fun w1 => ?hy12) ?hn12; (case hw12 => rfl); (case hy12 => (go_simp; (try with_reducible rfl))); (try simp only [Act.put, zF, zG, zH]))
      (refine TD.val0 (v := ?v13) (by simp only [zA, zB, zC]; rfl) rfl ?hw13 (fun w1 => ?hy13) ?hn13; (case hw13 => rfl); (case hy13 => (go_simp; (try with_reducible rfl))); (try simp only [Act.put, zF, zG, zH]))
      (refine TD.load (v := ?v14) (p := ?p14) (Mod.refl _ _) (by simp only [zA, zB, zC]; rfl) rfl ?hw14 rfl ?hx14 (fun wq hSq => ?hy14) ?hn14; (case hw14 => rfl); (case hx14 => (simp only [Act.eval, zD, zA, zB, zC, zE]; (try rfl))); (case hy14 => (have klq := hSq.at kl (fun h => h); go_simp; (try with_reducible rfl))); (try simp only [Act.put, zF, zG, zH]))
      refine TD.eff (by simp only [zA, zB, zC]; rfl) rfl (fun w3 hr => ?_)
      replace kl := hr.mod.at kl (fun h => h)
      have hSt3 := HSt.out.mod0 hr.mod
      have hput := put_c p b _ xk xa w3 hSt3
      obtain ⟨R, hR, hRl⟩ := HRt.out
      have hR3 := hR.mod0 hr.mod
      have hm3 := hm.out.then0 hr.mod
      have HB3 := Lib.hid hSt3
      clear hr hSt3
      (refine eff_callP (by simp only [zA, zB, zC]; rfl) ?hw16 ?hy16 hput (fun wn hP => ?hn16); (case hw16 => rfl); (case hy16 => (go_simp; (try (first | with_reducible rfl | (constructor <;> with_reducible rfl))))); (try simp only [Act.put, zF, zG, zH]))
      refine TE.nil ?_
      obtain ⟨hO3, m3⟩ := hP
      rw [← stL_snoc (x := ⟨xk, xa⟩) HX.out] at hO3
      have hb2 : g ≠ b := by omega
      replace kl := m3.at kl hb2
      have hR4 := hR3.mod m3 hpr.2 (fun j e cur hk => by
        obtain ⟨_, es, cc, kb, _⟩ := HB3.out
        have e' : j = b := e
        rw [e', kb] at hk
        cases hk)
      have hm4 := hm3.trans (m3.mono (fun _ _ h => .inl h))
      have HO4 := Lib.hid hO3
      have HR4 := Lib.hid hR4
      have HRL := Lib.hid hRl
      have HM4 := Lib.hid hm4
      clear hO3 hR4 hR3 hm3 hm4 m3 hput hR hRl HB3
      go_upto_region 7 with fail
      have Lkl := lt_size kl
      refine wp_pass (C := fun _ _ _ => False) (κ := fun i => [0, 0, 0, 0, 0, 1, 0, 0, 0, 0, 1, 5].getD i 0) [0, 1, 2, 3, 4, 5, 6, 7, 8, 9, 10, 11] (by kernel_rfl) (by kernel_rfl) (fun _ _ d _ _ h => by cases d <;> first | exact h | exact absurd h (hP _ _ _)) ?_
      (refine TD.val0 (v := ?v17) (by simp only [zA, zB, zC]; rfl) rfl ?hw17 (fun w1 => ?hy17) ?hn17; (case hw17 => rfl); (case hy17 => (go_simp; (try with_reducible rfl))); (try simp only [Act.put, zF, zG, zH]))
      (refine TD.val0 (v := ?v18) (by simp only [zA, zB, zC]; rfl) rfl ?hw18 (fun w1 => ?hy18) ?hn18; (case hw18 => rfl); (case hy18 => (go_simp; (try with_reducible rfl))); (try simp only [Act.put, zF, zG, zH]))
      (refine TD.val0 (v := ?v19) (by simp only [zA, zB, zC]; rfl) rfl ?hw19 (fun w1 => ?hy19) ?hn19; (case hw19 => rfl); (case hy19 => (go_simp; (try with_reducible rfl))); (try simp only [Act.put, zF, zG, zH]))
      (refine TD.val0 (v := ?v20) (by simp only [zA, zB, zC]; rfl) rfl ?hw20 (fun w1 => ?hy20) ?hn20; (case hw20 => rfl); (case hy20 => (go_simp; (try with_reducible rfl))); (try simp only [Act.put, zF, zG, zH]))
      (refine TD.val0 (v := ?v21) (by simp only [zA, zB, zC]; rfl) rfl ?hw21 (fun w1 => ?hy21) ?hn21; (case hw21 => rfl); (case hy21 => (go_simp; (try with_reducible rfl))); (try simp only [Act.put, zF, zG, zH]))
      (refine TD.load (v := ?v22) (p := ?p22) (Mod.refl _ _) (by simp only [zA, zB, zC]; rfl) rfl ?hw22 rfl ?hx22 (fun wq hSq => ?hy22) ?hn22; (case hw22 => rfl); (case hx22 => (simp only [Act.eval, zD, zA, zB, zC, zE]; (try rfl))); (case hy22 => (have klq := hSq.at kl (fun h => h); go_simp; (try with_reducible rfl))); (try simp only [Act.put, zF, zG, zH]))
      (refine TD.val0 (v := ?v23) (by simp only [zA, zB, zC]; rfl) rfl ?hw23 (fun w1 => ?hy23) ?hn23; (case hw23 => rfl); (case hy23 => (go_simp; (try with_reducible rfl))); (try simp only [Act.put, zF, zG, zH]))
      (refine TD.val0 (v := ?v24) (by simp only [zA, zB, zC]; rfl) rfl ?hw24 (fun w1 => ?hy24) ?hn24; (case hw24 => rfl); (case hy24 => (go_simp; (try with_reducible rfl))); (try simp only [Act.put, zF, zG, zH]))
      (refine TD.val0 (v := ?v25) (by simp only [zA, zB, zC]; rfl) rfl ?hw25 (fun w1 => ?hy25) ?hn25; (case hw25 => rfl); (case hy25 => (go_simp; (try with_reducible rfl))); (try simp only [Act.put, zF, zG, zH]))
      (refine TD.val0 (v := ?v26) (by simp only [zA, zB, zC]; rfl) rfl ?hw26 (fun w1 => ?hy26) ?hn26; (case hw26 => rfl); (case hy26 => (go_simp; (try with_reducible rfl))); (try simp only [Act.put, zF, zG, zH]))
      (refine TD.load (v := ?v27) (p := ?p27) (Mod.refl _ _) (by simp only [zA, zB, zC]; rfl) rfl ?hw27 rfl ?hx27 (fun wq hSq => ?hy27) ?hn27; (case hw27 => rfl); (case hx27 => (simp only [Act.eval, zD, zA, zB, zC, zE]; (try rfl))); (case hy27 => (have klq := hSq.at kl (fun h => h); go_simp; (try with_reducible rfl))); (try simp only [Act.put, zF, zG, zH]))
      refine TD.eff (by simp only [zA, zB, zC]; rfl) rfl (fun w5 hr => ?_)
      replace kl := hr.mod.at kl (fun h => h)
      have hrp := rput_c p9 R xk xa w5 (HR4.out.mod0 hr.mod) (by have := HRL.out; omega)
      have hm5 := HM4.out.then0 hr.mod
      have hO5 := HO4.out.mod0 hr.mod
      clear hr
      (refine eff_callP (by simp only [zA, zB, zC]; rfl) ?hw29 ?hy29 hrp (fun wn hP => ?hn29); (case hw29 => rfl); (case hy29 => (go_simp; (try (first | with_reducible rfl | (constructor <;> with_reducible rfl))))); (try simp only [Act.put, zF, zG, zH]))
      refine TE.nil ?_
      obtain ⟨hR6, m6⟩ := hP
      have hO6 := hO5.mod m6 (fun e => hpr.1 e.symm) (fun e => hpr.2 e.symm)
      have HE6 := Lib.hid (And.intro hO6 (And.intro (hm5.trans (m6.mono (fun _ _ h => .inr h))) hR6))
      have hln : (rputL xk xa (decide (xa = acct0)) R).length ≤ R.length + 1 := Nat.le_trans (rputL_len xk xa R (decide (xa = acct0))) (by split <;> omega)
      have HLN := Lib.hid hln
      clear hO6 hO5 hm5 hR6 m6 hrp hln
      go_wp2_with fail
      go_roundw
      case rel => exact ⟨i + 1, by omega, by go_num, Lib.hid HE6.out.1, Lib.hid ⟨_, HE6.out.2.2, by have := HLN.out; have := HRL.out; omega⟩, Lib.hid HE6.out.2.1⟩
      case measure => simp [intOf]; omega
    · have hd := decide_eq_false hlt
      obtain rfl : i = ll := by omega
      go_wp2_with fail
      go_ret2
      refine ⟨p, b, p9, rfl, hp, hbb, hp9, ?_, ?_, hmw⟩
      · have := HSt.out
        rw [← HLL.out, List.take_length] at this
        exact this
      · obtain ⟨R, hR, _⟩ := HRt.out
        exact ⟨R, hR⟩
structure GrR' where
  L : Sl Hold
  H : Sl Key
  M : Sl Sg
  lim : Lim
def grc (g : GrR') : Array Value := #[g.L.v, g.H.v, g.M.v, u64v g.lim.b, u64v g.lim.a, u64v g.lim.s]
theorem grc_size (g : GrR') : (grc g).size = 6 := rfl
theorem grc_all (g : GrR') : (grc g).extract 0 6 = grc g := rfl
theorem grc_lim (g : GrR') : (grc g).extract 3 6 = #[u64v g.lim.b, u64v g.lim.a, u64v g.lim.s] := rfl
theorem grc_one (g : GrR') : (grc g).all (·.oneCell') 0 6 = true := all_of (grc_size g) (by simp [grc, Value.oneCell', Sl.v])
theorem grc0 (g : GrR') : (grc g)[0]? = some (.slice g.L.a g.L.l.length g.L.c) := rfl
theorem grc0' (g : GrR') (h : 0 < (grc g).size) : (grc g)[0] = .slice g.L.a g.L.l.length g.L.c := rfl
theorem grc1 (g : GrR') : (grc g)[1]? = some (.slice g.H.a g.H.l.length g.H.c) := rfl
theorem grc1' (g : GrR') (h : 1 < (grc g).size) : (grc g)[1] = .slice g.H.a g.H.l.length g.H.c := rfl
theorem grc2 (g : GrR') : (grc g)[2]? = some (.slice g.M.a g.M.l.length g.M.c) := rfl
theorem grc2' (g : GrR') (h : 2 < (grc g).size) : (grc g)[2] = .slice g.M.a g.M.l.length g.M.c := rfl
theorem grc3 (g : GrR') : (grc g)[3]? = some (u64v g.lim.b) := rfl
theorem grc3' (g : GrR') (h : 3 < (grc g).size) : (grc g)[3] = u64v g.lim.b := rfl
theorem grc4 (g : GrR') : (grc g)[4]? = some (u64v g.lim.a) := rfl
theorem grc4' (g : GrR') (h : 4 < (grc g).size) : (grc g)[4] = u64v g.lim.a := rfl
theorem grc5 (g : GrR') : (grc g)[5]? = some (u64v g.lim.s) := rfl
theorem grc5' (g : GrR') (h : 5 < (grc g).size) : (grc g)[5] = u64v g.lim.s := rfl
theorem ldGnd (w : World) (b o : Nat) : (Instr.loadAt 29 (.pointer (some ⟨b, o, none⟩))).run Try.prog w =
      match w.heap[b]? with
      | some (.cells cs _ _) => if o + 6 ≤ cs.size then .ok (.agg (cs.extract o (o + 6))) w else farL Try.prog w 29 b o
      | _ => farL Try.prog w 29 b o := load_rule (d := _) Try.underlying29 rfl (by kernel_rfl) w b o
theorem stGnd (w : World) (b o : Nat) (xs : Array Value) : (Instr.storeAt 29 (.pointer (some ⟨b, o, none⟩)) (.agg xs)).run Try.prog w =
      match w.heap[b]? with
      | some (.cells cs U (0, 0)) =>
        if o + 6 ≤ cs.size ∧ xs.size = 6 ∧ xs.all (·.oneCell') = true then .ok () (setBlock w b (.cells (if o = 0 ∧ 6 = cs.size then xs else wr cs o xs.toList) U (0, 0))) else farS Try.prog w 29 b o (.agg xs)
      | _ => farS Try.prog w 29 b o (.agg xs) := store_rule (by kernel_rfl) w b o xs
theorem wlGnd (dst : Option Tmp) (x : Operand) (ty : TypeId) (pos : String) (after : Array Edge) (g : Option (Nat × Bool)) (a : Act) (w : World) (K : Act → World → Prop) (Q : Exit → Act → World → Prop) :
    Oper.wp Try.prog { dst := dst, op := .load 29 x, type := ty, pos := pos, after := after, guard := g } a w K Q =
      (match a.eval x with
      | .pointer (some ⟨b, o, none⟩) =>
        (match w.heap[b]? with
        | some (.cells cs _ _) => if o + 6 ≤ cs.size then K (a.put dst (.agg (cs.extract o (o + 6)))) w else farW Try.prog { dst := dst, op := .load 29 x, type := ty, pos := pos, after := after, guard := g } a w K Q
        | _ => farW Try.prog { dst := dst, op := .load 29 x, type := ty, pos := pos, after := after, guard := g } a w K Q)
      | _ => farW Try.prog { dst := dst, op := .load 29 x, type := ty, pos := pos, after := after, guard := g } a w K Q) := wp_load_rule (d := _) Try.underlying29 rfl (by kernel_rfl) dst x ty pos after g a w K Q
def GrOk (w : World) (g : GrR') : Prop := SlOk hd 66 80 (fun _ _ => True) w g.L ∧ SlOk kc 32 32 (fun _ _ => True) w g.H ∧ SlOk sgc 64 64 (fun _ _ => True) w g.M
theorem sig_at {w : World} {a : Option Addr} {l : List Sg} (h : SlAt sgc 64 w a l) {i : Nat} {x : Sg} (hx : l[i]? = some x) : ∃ g o C U fr, a = some ⟨g, o, none⟩ ∧ w.heap[g]? = some (.cells C U fr) ∧ C.extract (o + i * 64) (o + i * 64 + 64) = sgc x ∧ o + i * 64 + 64 ≤ C.size := h.block hx
theorem slOk_lt {α : Type} {f : α → Array Value} {n B : Nat} {Ok : World → α → Prop} {w : World} {s : Sl α} (h : SlOk f n B Ok w s) {i : Nat} {x : α} (hx : s.l[i]? = some x) {g o : Nat} (ha : s.a = some ⟨g, o, none⟩) : g < w.heap.size := by
  rcases h.2.2.2.1 _ ha with h1 | h1
  · exact h1
  · rw [h1] at hx
    cases hx
def quL (l : List Key) : List Key := l.foldl pushQ []
theorem quL_snoc {l : List Key} {i : Nat} {x : Key} (hx : l[i]? = some x) : quL (l.take (i + 1)) = pushQ (quL (l.take i)) x := by
  rw [List.take_add_one, hx]
  simp [quL]
def seL (l : List Sg) : List (Sg × Key) := l.foldl (fun N g => markS N g key0) []
theorem seL_snoc {l : List Sg} {i : Nat} {x : Sg} (hx : l[i]? = some x) : seL (l.take (i + 1)) = markS (seL (l.take i)) x key0 := by
  rw [List.take_add_one, hx]
  simp [seL]
theorem markS_len (N : List (Sg × Key)) (g : Sg) (k : Key) : (markS N g k).length ≤ N.length + 1 := by
  unfold markS
  split
  · omega
  · rename_i h
    have := (len_put g k N).2 (by simpa using h)
    omega
theorem seL_len (l : List Sg) : (seL l).length ≤ l.length := by
  suffices h : ∀ (l : List Sg) (N : List (Sg × Key)), (l.foldl (fun N g => markS N g key0) N).length ≤ N.length + l.length by
    have := h l []
    simpa [seL] using this
  intro l
  induction l with
  | nil => intro N; simp
  | cons g r ih =>
    intro N
    have h1 := ih (markS N g key0)
    have h2 := markS_len N g key0
    rw [List.foldl_cons, List.length_cons]
    omega
end Go.Proofs.Ytofpnmoeimjnnaa
namespace Go.Proofs.Ytofpnmoeimjnnaa
open Go.RowKit
open Go.ChangeMaps (setBlock)
set_option linter.unusedSimpArgs false
set_option linter.unusedVariables false
attribute [local go_sem ↓] wlKey ldKey stKey wlAcct ldAcct stAcct wlHold ldHold stHold wlHash ldHash stHash wlSig ldSig stSig wlLim ldLim stLim wlRdy ldRdy stRdy wlOut ldOut stOut wlTd ldTd stTd wlTx ldTx stTx eqKey1
attribute [local go_sem] eqMap neMap av_size av_all av_one hd_size hd_key hd_acct hd_all hd_one zKey_size zAcct_size zHold_size zHash_size zSg_size zLim_size zRdy_size zOut_size zTried_size zTx_size cell_blk frozen_blk kc_ext one_int one_bool one_ptr one_slice one_map kc_one kc_one0 kc_size sgc_size sgc_ext sgc_one0 sgc_one' rdr_size rdr_all rdr_one rdr_tx rdr_rec rdr0 rdr1 rdr6 rdr39 rdr40 rdr41 rdr0' rdr1' rdr6' rdr39' rdr40' rdr41' ocr_size ocr_all ocr_one ocr2 ocr3 ocr4 ocr5 ocr2' ocr3' ocr4' ocr5' tdr_size tdr_all tdr_one tdr_r tdr_o tdr_tx tdr_rec tdr0 tdr1 tdr41 tdr50 tdr51 tdr52 tdr53 tdr0' tdr1' tdr41' tdr50' tdr51' tdr52' tdr53' txr_size txr_all txr_one txr0 txr38 txr39 txr0' txr38' txr39' Value.cells
attribute [local go_sem ↓] eqHash eqSig eqAcct eqHold wlGnd ldGnd stGnd
attribute [local go_sem] zHash_ext zHash_one0 eqMapS neMapS grc_size grc_all grc_lim grc_one grc0 grc1 grc2 grc3 grc4 grc5 grc0' grc1' grc2' grc3' grc4' grc5'
structure OcP where
  fail : Int64
  at' : Int64
  un : UInt64
  fee : UInt64
  sp : UInt64
  ch : List Hold
def OcR.pl (o : OcR) : OcP := ⟨o.fail, o.at', o.un, o.fee, o.sp, o.ch.l⟩
structure BS where
  en : Bool
  H : List Key
  N : List (Sg × Key)
  L : Lim
  b : UInt64
  sp : UInt64
  m : List (Key × UInt64)
  es : List (List UInt8)
  os : List OcP
  fees : UInt64
def BkAt (Tn Tr : Nat → Prop) (w : World) (b s : Nat) (S : BS) : Prop :=
  ∃ (q n t m : Nat) (ea : Option Addr) (en ec : Nat) (oa : Option Addr) (on oc : Nat) (er : List (Sl UInt8)) (orr : List OcR),
    w.heap[b]? = some (.cells (blkC s q n t S.en ea en ec oa on oc S.fees) 80 (0, 0)) ∧
    (QuAt w q S.H ∧ SeAt Tn w n S.N ∧ TrAt w t m S.L S.b S.sp S.m) ∧
    (SlOwn slv 1 45 w 0 (.slice ea en ec) er ∧ er.map (·.l) = S.es ∧ ∀ x ∈ er, SlOwn uc 1 5 w 0 x.v x.l) ∧
    (SlOwn ocr 6 64 w 0 (.slice oa on oc) orr ∧ orr.map OcR.pl = S.os ∧ ∀ x ∈ orr, NewS hd 66 155 0 w x.ch.v x.ch.l) ∧
    (Tr b ∧ Tr t ∧ Tr m ∧ ¬ Tr q ∧ ¬ Tn q) ∧
    ((∀ g, (Value.slice ea en ec).ownBlock = some g → Tr g) ∧ (∀ g, (Value.slice oa on oc).ownBlock = some g → Tr g) ∧ (∀ x ∈ er, ∀ g, x.v.ownBlock = some g → Tr g) ∧ (∀ x ∈ orr, ∀ g, x.ch.v.ownBlock = some g → Tr g)) ∧
    (∀ i, Tn i → ¬ Tr i)
theorem BkAt.mod {Tn Tr S : Nat → Prop} {w w' : World} {b s : Nat} {B : BS} (h : BkAt Tn Tr w b s B) (hm : Mod S w w') (h1 : ∀ i, Tn i → ¬ S i) (h2 : ∀ i, Tr i → ¬ S i) (h3 : ∀ q c0 c1 c2, w.heap[q]? = some (.cells (qr c0 c1 c2 1) 136 (0, 0)) → ¬ S q) : BkAt Tn Tr w' b s B := by
  obtain ⟨q, n, t, m, ea, en, ec, oa, on, oc, er, orr, kb, ⟨hq, hn, ht⟩, ⟨he1, he2, he3⟩, ⟨ho1, ho2, ho3⟩, ⟨t1, t2, t3, t4, t5⟩, ⟨u1, u2, u3, u4⟩, hd⟩ := h
  refine ⟨q, n, t, m, ea, en, ec, oa, on, oc, er, orr, hm.at kb (h2 _ t1), ⟨?_, hn.mod hm h1, ht.mod hm (h2 _ t2) (h2 _ t3)⟩, ⟨he1.mod hm (fun g hg => h2 _ (u1 g hg)), he2, fun x hx => (he3 x hx).mod hm (fun g hg => h2 _ (u3 x hx g hg))⟩, ⟨ho1.mod hm (fun g hg => h2 _ (u2 g hg)), ho2, fun x hx => (ho3 x hx).mod hm (fun g hg => h2 _ (u4 x hx g hg))⟩, ⟨t1, t2, t3, t4, t5⟩, ⟨u1, u2, u3, u4⟩, hd⟩
  obtain ⟨R, nx, kq, hqi⟩ := hq
  exact ⟨R, nx, hm.at kq (h3 q R _ _ kq), hqi⟩
theorem BkAt.mod0 {Tn Tr : Nat → Prop} {w w' : World} {b s : Nat} {B : BS} (h : BkAt Tn Tr w b s B) (hm : Mod (fun _ => False) w w') : BkAt Tn Tr w' b s B := h.mod hm (fun _ _ h => h) (fun _ _ h => h) (fun _ _ _ _ _ h => h)
theorem bldRQ (w : World) : (Instr.build 104 #[]).run Try.prog w = .ok (.agg #[.slice none 0 0]) w := by kernel_rfl
theorem r20new_c (L : Lim) (w : World) : Calls Try.prog 62 #[.agg #[u64v L.b, u64v L.a, u64v L.s]] w fun e w' => (∃ t, e = .returned (ptrV t)) ∧ Mod (fun _ => False) w w' := by
  have hb : ∀ w, (Instr.build 199 #[(0, .agg #[u64v L.b, u64v L.a, u64v L.s])]).run Try.prog w = .ok (.agg #[u64v L.b, u64v L.a, u64v L.s, .slice none 0 0]) w := fun w => by kernel_rfl
  go_enter Try.func62, Try.ntmps62
  go_upto_region 0 with fail
  refine wp_pass0 (C := fun _ _ _ => False) (κ := fun i => [3, 0].getD i 0) [0, 1] (by kernel_rfl) (by kernel_rfl) (fun _ _ d _ _ h => by cases d <;> first | exact h | exact absurd h (hP _ _ _)) ?_
  (refine TD.box (v := ?v1) (by simp only [zA, zB, zC]; rfl) rfl ?hw1 rfl rfl ?hx1 (fun p1 hp1 => ?hn1); (case hw1 => rfl); (case hx1 => (simp only [Act.eval, zD, zA, zB, zC, zE]; (try rfl))); (try simp only [Act.put, zF, zG, zH]))
  (refine TD.val0 (v := ?v2) (by simp only [zA, zB, zC]; rfl) rfl ?hw2 (fun w1 => ?hy2) ?hn2; (case hw2 => rfl); (case hy2 => (go_simp; (try with_reducible rfl))); (try simp only [Act.put, zF, zG, zH]))
  refine TD.nil (fun w1 hr => ?_)
  have kp1 := hr.box p1 _ (by first | exact Bx.set_same _ _ _ | (simp only [Bx.set_same]; rfl)); dsimp only [Value.cells] at kp1; obtain ⟨gp1, kp1⟩ := kp1
  have m1 := hr.mod
  clear hr
  go_upto_region 1 with fail
  have Lkp1 := lt_size kp1
  refine wp_pass0 (C := fun _ _ _ => False) (κ := fun i => [1, 0, 3, 0].getD i 0) [0, 1, 2, 3] (by kernel_rfl) (by kernel_rfl) (fun _ _ d _ _ h => by cases d <;> first | exact h | exact absurd h (hP _ _ _)) ?_
  (refine TD.load (v := ?v3) (p := ?p3) (Mod.refl _ _) (by simp only [zA, zB, zC]; rfl) rfl ?hw3 rfl ?hx3 (fun wq hSq => ?hy3) ?hn3; (case hw3 => rfl); (case hx3 => (simp only [Act.eval, zD, zA, zB, zC, zE]; (try rfl))); (case hy3 => (have kp1q := hSq.at kp1 (fun h => h); go_simp; (try with_reducible rfl))); (try simp only [Act.put, zF, zG, zH]))
  (refine TD.build (v := ?v4) (ps := ?p4) (by simp only [zA, zB, zC]; rfl) rfl ?hw4 rfl ?hx4 (fun w1 => ?hy4) ?hn4; (case hw4 => rfl); (case hx4 => (simp only [List.map_toArray, List.map_cons, List.map_nil, Act.eval, zD, zA, zB, zC, zE]; (try rfl))); (case hy4 => (rw [hb]; (try with_reducible rfl))); (try simp only [Act.put, zF, zG, zH]))
  (refine TD.box (v := ?v5) (by simp only [zA, zB, zC]; rfl) rfl ?hw5 rfl rfl ?hx5 (fun p5 hp5 => ?hn5); (case hw5 => rfl); (case hx5 => (simp only [Act.eval, zD, zA, zB, zC, zE]; (try rfl))); (try simp only [Act.put, zF, zG, zH]))
  (refine TD.val0 (v := ?v6) (by simp only [zA, zB, zC]; rfl) rfl ?hw6 (fun w1 => ?hy6) ?hn6; (case hw6 => rfl); (case hy6 => (go_simp; (try with_reducible rfl))); (try simp only [Act.put, zF, zG, zH]))
  refine TD.nil (fun w2 hr => ?_)
  replace kp1 := hr.mod.at kp1 (fun h => h)
  have kp5 := hr.box p5 _ (by first | exact Bx.set_same _ _ _ | (simp only [Bx.set_same]; rfl)); dsimp only [Value.cells] at kp5; obtain ⟨gp5, kp5⟩ := kp5
  have m2 := m1.then0 hr.mod
  go_wp2_with fail
  go_ret
  exact ⟨⟨_, rfl⟩, m2⟩
theorem r27open_c (a b c : Nat) (L : Lim) (w : World) : Calls Try.prog 32 #[ptrV a, ptrV b, ptrV c, .agg #[u64v L.b, u64v L.a, u64v L.s]] w fun e w' => (∃ t, e = .returned (ptrV t)) ∧ Mod (fun _ => False) w w' := by
  go_enter Try.func32, Try.ntmps32
  go_upto_region 0 with fail
  refine wp_pass0 (C := fun _ _ _ => False) (κ := fun i => [3, 0].getD i 0) [0, 1] (by kernel_rfl) (by kernel_rfl) (fun _ _ d _ _ h => by cases d <;> first | exact h | exact absurd h (hP _ _ _)) ?_
  (refine TD.box (v := ?v7) (by simp only [zA, zB, zC]; rfl) rfl ?hw7 rfl rfl ?hx7 (fun p7 hp7 => ?hn7); (case hw7 => rfl); (case hx7 => (simp only [Act.eval, zD, zA, zB, zC, zE]; (try rfl))); (try simp only [Act.put, zF, zG, zH]))
  (refine TD.val0 (v := ?v8) (by simp only [zA, zB, zC]; rfl) rfl ?hw8 (fun w1 => ?hy8) ?hn8; (case hw8 => rfl); (case hy8 => (go_simp; (try with_reducible rfl))); (try simp only [Act.put, zF, zG, zH]))
  refine TD.nil (fun w1 hr => ?_)
  have kp7 := hr.box p7 _ (by first | exact Bx.set_same _ _ _ | (simp only [Bx.set_same]; rfl)); dsimp only [Value.cells] at kp7; obtain ⟨gp7, kp7⟩ := kp7
  have m1 := hr.mod
  clear hr
  go_upto_region 1 with fail
  go_wp2_with fail
  go_at_call 62
  refine (r20new_c L _).mono ?_
  rintro e w2 ⟨⟨t, rfl⟩, m2⟩
  have hb : ∀ w, (Instr.build 168 #[(0, ptrV a), (1, ptrV b), (2, ptrV c), (3, ptrV t)]).run Try.prog w = .ok (.agg #[ptrV a, ptrV b, ptrV c, ptrV t, .bool false, .slice none 0 0, .slice none 0 0]) w := fun w => by kernel_rfl
  go_wp2_with fail
  go_ret
  exact ⟨⟨_, rfl⟩, (m1.then0 m2).alloc _⟩
end Go.Proofs.Ytofpnmoeimjnnaa
namespace Go.Proofs.Ytofpnmoeimjnnaa
open Go.RowKit
open Go.ChangeMaps (setBlock)
set_option linter.unusedSimpArgs false
set_option linter.unusedVariables false
attribute [local go_sem ↓] wlKey ldKey stKey wlAcct ldAcct stAcct wlHold ldHold stHold wlHash ldHash stHash wlSig ldSig stSig wlLim ldLim stLim wlRdy ldRdy stRdy wlOut ldOut stOut wlTd ldTd stTd wlTx ldTx stTx eqKey1
attribute [local go_sem] eqMap neMap av_size av_all av_one hd_size hd_key hd_acct hd_all hd_one zKey_size zAcct_size zHold_size zHash_size zSg_size zLim_size zRdy_size zOut_size zTried_size zTx_size cell_blk frozen_blk kc_ext one_int one_bool one_ptr one_slice one_map kc_one kc_one0 kc_size sgc_size sgc_ext sgc_one0 sgc_one' rdr_size rdr_all rdr_one rdr_tx rdr_rec rdr0 rdr1 rdr6 rdr39 rdr40 rdr41 rdr0' rdr1' rdr6' rdr39' rdr40' rdr41' ocr_size ocr_all ocr_one ocr2 ocr3 ocr4 ocr5 ocr2' ocr3' ocr4' ocr5' tdr_size tdr_all tdr_one tdr_r tdr_o tdr_tx tdr_rec tdr0 tdr1 tdr41 tdr50 tdr51 tdr52 tdr53 tdr0' tdr1' tdr41' tdr50' tdr51' tdr52' tdr53' txr_size txr_all txr_one txr0 txr38 txr39 txr0' txr38' txr39' Value.cells
attribute [local go_sem ↓] eqHash eqSig eqAcct eqHold wlGnd ldGnd stGnd
attribute [local go_sem] zHash_ext zHash_one0 eqMapS neMapS grc_size grc_all grc_lim grc_one grc0 grc1 grc2 grc3 grc4 grc5 grc0' grc1' grc2' grc3' grc4' grc5'
theorem mark0_c {T : Nat → Prop} (n : Nat) (N : List (Sg × Key)) (g : Sg) (w : World) (h : SeAt T w n N) (hT : ∀ i, T i → i < w.heap.size) (hN : N.length < 1000000) : Calls Try.prog 30 #[ptrV n, .agg (sgc g), .agg zHash] w fun e w' => (∃ v, e = .returned v) ∧ SeAt (fun i => T i ∨ (w.heap.size ≤ i ∧ i < w'.heap.size)) w' n (markS N g key0) ∧ Mod T w w' := mark_c n N g key0 w h hT hN
theorem rmark0_c {T : Nat → Prop} (h : Nat) (M : List (Sg × Key)) (g : Sg) (w : World) (hD : DS T w h M) (hT : ∀ i, T i → i < w.heap.size) (hM : M.length < 1000000) : Calls Try.prog 31 #[ptrV h, .agg (sgc g), .agg zHash] w fun e w' => (∃ v, e = .returned v) ∧ (∃ M', M'.length ≤ M.length + 1 ∧ DS (fun i => T i ∨ (w.heap.size ≤ i ∧ i < w'.heap.size)) w' h M') ∧ Mod T w w' := rmark_c h M g key0 w hD hT hM
set_option maxRecDepth 20000 in
set_option maxHeartbeats 6400000 in
theorem opened_c (g : GrR') (w : World) (hok : GrOk w g) (n1 : g.L.l.length ≤ 200) (n2 : g.H.l.length ≤ 160) (n3 : g.M.l.length ≤ 100) : Calls Try.prog 7 #[.agg (grc g)] w fun e w' => ∃ b s r sb Tn Tr, e = .returned (.tuple #[ptrV b, ptrV s, ptrV r]) ∧ BkAt Tn Tr w' b s ⟨false, quL g.H.l, seL g.M.l, g.lim, 0, 0, [], [], [], 0⟩ ∧ (∀ i, Tn i ∨ Tr i → w.heap.size ≤ i ∧ i < w'.heap.size) ∧ StAt w' s sb (stL g.L.l) ∧ Mod (fun _ => False) w w' := by
  have HO := Lib.hid hok
  have hrq := bldRQ
  have hh0 := bldHash0
  clear hok
  go_enter Try.func7, Try.ntmps7
  go_upto_region 0 with fail
  refine wp_pass0 (C := fun _ _ _ => False) (κ := fun i => [3, 0, 0, 0].getD i 0) [0, 1, 2, 3] (by kernel_rfl) (by kernel_rfl) (fun _ _ d _ _ h => by cases d <;> first | exact h | exact absurd h (hP _ _ _)) ?_
  (refine TD.box (v := ?v1) (by simp only [zA, zB, zC]; rfl) rfl ?hw1 rfl rfl ?hx1 (fun p1 hp1 => ?hn1); (case hw1 => rfl); (case hx1 => (simp only [Act.eval, zD, zA, zB, zC, zE]; (try rfl))); (try simp only [Act.put, zF, zG, zH]))
  (refine TD.val0 (v := ?v2) (by simp only [zA, zB, zC]; rfl) rfl ?hw2 (fun w1 => ?hy2) ?hn2; (case hw2 => rfl); (case hy2 => (go_simp; (try with_reducible rfl))); (try simp only [Act.put, zF, zG, zH]))
  (refine TD.val0 (v := ?v3) (by simp only [zA, zB, zC]; rfl) rfl ?hw3 (fun w1 => ?hy3) ?hn3; (case hw3 => rfl); (case hy3 => (go_simp; (try with_reducible rfl))); (try simp only [Act.put, zF, zG, zH]))
  (refine TD.val0 (v := ?v4) (by simp only [zA, zB, zC]; rfl) rfl ?hw4 (fun w1 => ?hy4) ?hn4; (case hw4 => rfl); (case hy4 => (go_simp; (try with_reducible rfl))); (try simp only [Act.put, zF, zG, zH]))
  refine TD.nil (fun w1 hr => ?_)
  have kp1 := hr.box p1 _ (by first | exact Bx.set_same _ _ _ | (simp only [Bx.set_same]; rfl)); dsimp only [Value.cells] at kp1; obtain ⟨gp1, kp1⟩ := kp1
  have m1 := hr.mod
  have HP1 := Lib.hid (lt_size kp1)
  clear hr
  go_upto_region 1 with fail
  go_wp2_with fail
  go_at_call 26
  refine (stores_c g.L.a g.L.l g.L.c _ (HO.out.1.1.mod0 m1) n1 (fun x hx => (HO.out.1.2.2.2.1 x hx).imp (fun h => Nat.lt_of_lt_of_le h m1.size) id)).mono ?_
  rintro e w2 ⟨s, sb, r, rfl, hs, hsb, hr2, hS, -, m2⟩
  replace kp1 := m2.at0 kp1
  have hlS := hS.lt
  have HS := Lib.hid hS
  have m2 := m1.then0 m2
  have hw1 := m1.size
  clear hS m1
  go_wp2_with fail
  go_at_call 22
  refine (newQ_c _).mono ?_
  rintro e w3 ⟨q, rfl, hq, hQ, m3⟩
  replace kp1 := m3.at0 kp1
  have HS3 := Lib.hid (HS.out.mod0 m3)
  have HQ := Lib.hid hQ
  have hw2 := m2.size
  have m3 := m2.then0 m3
  clear hQ m2 HS
  go_upto_region 3 with fail
  have Lkp1 := lt_size kp1
  refine wp_pass0 (C := fun _ _ _ => False) (κ := fun i => [0, 3, 0].getD i 0) [0, 1, 2] (by kernel_rfl) (by kernel_rfl) (fun _ _ d _ _ h => by cases d <;> first | exact h | exact absurd h (hP _ _ _)) ?_
  (refine TD.build (v := ?v5) (ps := ?p5) (by simp only [zA, zB, zC]; rfl) rfl ?hw5 rfl ?hx5 (fun w1 => ?hy5) ?hn5; (case hw5 => rfl); (case hx5 => (simp only [List.map_toArray, List.map_cons, List.map_nil, Act.eval, zD, zA, zB, zC, zE]; (try rfl))); (case hy5 => (rw [hrq]; (try with_reducible rfl))); (try simp only [Act.put, zF, zG, zH]))
  (refine TD.box (v := ?v6) (by simp only [zA, zB, zC]; rfl) rfl ?hw6 rfl rfl ?hx6 (fun p23 hp23 => ?hn6); (case hw6 => rfl); (case hx6 => (simp only [Act.eval, zD, zA, zB, zC, zE]; (try rfl))); (try simp only [Act.put, zF, zG, zH]))
  (refine TD.val0 (v := ?v7) (by simp only [zA, zB, zC]; rfl) rfl ?hw7 (fun w1 => ?hy7) ?hn7; (case hw7 => rfl); (case hy7 => (go_simp; (try with_reducible rfl))); (try simp only [Act.put, zF, zG, zH]))
  refine TD.nil (fun w4 hr => ?_)
  replace kp1 := hr.mod.at kp1 (fun h => h)
  have kp23 := hr.box p23 _ (by first | exact Bx.set_same _ _ _ | (simp only [Bx.set_same]; rfl)); dsimp only [Value.cells] at kp23; obtain ⟨gp23, kp23⟩ := kp23
  have HS4 := Lib.hid (HS3.out.mod0 hr.mod)
  have HQ4 := Lib.hid (HQ.out.mod0 hr.mod)
  have hD4 : DQ w4 p23 [] := ⟨none, 0, kp23, .inl rfl, by simp, fun x hx => by cases hx⟩
  have HD4 := Lib.hid hD4
  have hw3 := m3.size
  have m4 := m3.then0 hr.mod
  have hq23 : q < p23 := by
    obtain ⟨_, _, kq, _⟩ := HQ.out
    have := lt_size kq
    omega
  have M4 := Lib.hid m4
  have hw4 := m4.size
  have hlq : q < w4.heap.size ∧ p23 < w4.heap.size := by
    obtain ⟨_, _, kq, _⟩ := HQ4.out
    exact ⟨lt_size kq, lt_size kp23⟩
  have KP1 := Lib.hid kp1
  clear hr kp1 kp23 hD4 HQ HS3 m3 m4 hrq
  go_wp2_with fail
  go_loopw [9] (fun s9 ws => ∃ i : Nat, i ≤ g.H.l.length ∧ s9 = .int .i64 (i : Int) ∧ Hid (QuAt ws q (quL (g.H.l.take i))) ∧ Hid (DQ ws p23 (quL (g.H.l.take i))) ∧ Hid (Mod (fun i => i = q ∨ i = p23) w4 ws)) (fun s9 _ => g.H.l.length - (intOf s9).toNat)
  case atStart => exact ⟨0, Nat.zero_le _, rfl, HQ4, HD4, Lib.hid (Mod.refl _ _)⟩
  case round =>
    obtain ⟨i, hi, rfl, HQi, HDi, hm⟩ := hrel
    have hmw : Mod (fun _ => False) w wr := M4.out.then hm.out (fun j hj e => by rcases e with e | e <;> omega)
    have hp1q : p1 ≠ q ∧ p1 ≠ p23 := by have := HP1.out; exact ⟨by omega, by omega⟩
    have kp1 := hm.out.at KP1.out (fun e => by rcases e with e | e <;> omega)
    by_cases hlt : i < g.H.l.length
    · have hd := decide_eq_true hlt
      obtain ⟨x, hx⟩ : ∃ x, g.H.l[i]? = some x := ⟨_, List.getElem?_eq_getElem (hlt)⟩
      obtain ⟨gg, o, C, U, fr, ha, kl, he, hle⟩ := hash_at (HO.out.2.1.1.mod0 hmw) hx
      have hgw := slOk_lt HO.out.2.1 hx ha
      have HX := Lib.hid hx
      clear hx hmw
      go_upto_region 7 with fail
      go_wp2_with fail
      go_at_call 27
      refine (push_c q _ x _ HQi.out).mono ?_
      rintro e w5 ⟨⟨v5, rfl⟩, hQ5, m5⟩
      rw [← quL_snoc HX.out] at hQ5
      replace kp1 := m5.at_ne kp1 hp1q.1
      replace kl := m5.at_ne kl (by omega)
      have HQ5 := Lib.hid hQ5
      have HD5 : Hid (DQ w5 p23 (quL (g.H.l.take i))) := Lib.hid (HDi.out.mod m5 (by omega) (fun a c hk b o hb hbq => by
        subst hb
        obtain ⟨a', c', hk', _, _, h4⟩ := HDi.out
        rw [hk] at hk'
        cases hk'
        have := (h4 _ rfl).2
        simp only at this
        omega))
      have HM5 := Lib.hid (hm.out.trans (m5.mono (fun _ _ h => .inl h)))
      clear hQ5 m5
      go_upto_region 8 with fail
      go_wp2_with fail
      go_at_call 28
      refine (rpush_c p23 _ x _ HD5.out).mono ?_
      rintro e w6 ⟨⟨v6, rfl⟩, hD6, m6⟩
      rw [← quL_snoc HX.out] at hD6
      have HE6 := Lib.hid (And.intro hD6 (And.intro (HQ5.out.mod m6 (by omega)) (HM5.out.trans (m6.mono (fun _ _ h => .inr h)))))
      clear hD6 m6
      go_wp2_with fail
      go_roundw
      case rel => exact ⟨i + 1, by omega, by go_num, Lib.hid HE6.out.2.1, Lib.hid HE6.out.1, Lib.hid HE6.out.2.2⟩
      case measure => simp [intOf]; omega
    · have hd := decide_eq_false hlt
      obtain rfl : i = g.H.l.length := by omega
      have HQf : Hid (QuAt wr q (quL g.H.l)) := Lib.hid (by
        have := HQi.out
        rw [List.take_length] at this
        exact this)
      have HS5 : Hid (StAt wr s sb (stL g.L.l)) := Lib.hid (HS4.out.mod hm.out (fun e => by rcases e with e | e <;> omega) (fun e => by rcases e with e | e <;> omega))
      have HMW := Lib.hid hmw
      have hww : w4.heap.size ≤ wr.heap.size := hm.out.size
      clear HQi HDi hmw hm
      go_wp2_with fail
      go_at_call 23
      refine (newN_c _).mono ?_
      rintro e w5 ⟨n, rfl, hn, hnl, hN, m5⟩
      replace kp1 := m5.at0 kp1
      have HQ5 := Lib.hid (HQf.out.mod0 m5)
      have HS6 := Lib.hid (HS5.out.mod0 m5)
      have HN := Lib.hid hN
      have HM5 := Lib.hid (HMW.out.then0 m5)
      have hw5 := m5.size
      clear hN m5 HQf HS5 HMW
      go_wp2_with fail
      go_at_call 29
      refine (snew_c _).mono ?_
      rintro e w6 ⟨o, rfl, ho, hol, hO, m6⟩
      replace kp1 := m6.at0 kp1
      have HQ6 := Lib.hid (HQ5.out.mod0 m6)
      have HS7 := Lib.hid (HS6.out.mod0 m6)
      have HN6 : Hid (SeAt (fun i => wr.heap.size ≤ i ∧ i < w5.heap.size) w6 n []) := Lib.hid (by
        obtain ⟨a, b, es, c, es2, c2, m2, h1, h2, h3, h4, h5, h6, t1, t2, t3, h7, h8⟩ := HN.out.ex
        have hh : SeAt (fun i => wr.heap.size ≤ i ∧ i < w5.heap.size) w5 n [] := ⟨a, b, es, c, es2, c2, m2, h1, h2, h3, h4, h5, h6, ⟨t1, lt_size h1⟩, ⟨t2, lt_size h2⟩, ⟨t3, lt_size h4⟩, fun p hp => by
          obtain ⟨l, q1, q2, q3⟩ := h7 p hp
          exact ⟨l, q1, fun g hg => ⟨q2 g hg, (q1.lt g hg).2⟩, q3⟩, h8⟩
        exact hh.mod0 m6)
      have HO6 := Lib.hid hO
      have HM6 := Lib.hid (HM5.out.then0 m6)
      have hw6 := m6.size
      have KP6 := Lib.hid kp1
      clear hO m6 HN HM5 HQ5 HS6 kp1
      go_wp2_with fail
      obtain ⟨wa, rfl⟩ : ∃ wa : World, wa = wr := ⟨_, rfl⟩
      go_loopw [12] (fun s12 ws => ∃ i : Nat, i ≤ g.M.l.length ∧ s12 = .int .i64 (i : Int) ∧ Hid (∃ Tn To : Nat → Prop, ∃ M, M.length ≤ i ∧ SeAt Tn ws n (seL (g.M.l.take i)) ∧ DS To ws o M ∧ (∀ i, Tn i ∨ To i → wa.heap.size ≤ i ∧ i < ws.heap.size) ∧ (∀ i, Tn i → ¬ To i)) ∧ Hid (Mod (fun i => wa.heap.size ≤ i) w6 ws)) (fun s12 _ => g.M.l.length - (intOf s12).toNat)
      case atStart =>
        exact ⟨0, Nat.zero_le _, rfl, Lib.hid ⟨_, _, [], by simp, HN6.out, HO6.out, fun i hi => by rcases hi with hi | hi <;> omega, fun i hi hj => by omega⟩, Lib.hid (Mod.refl _ _)⟩
      case round =>
        obtain ⟨i, hi, rfl, HE, hm⟩ := hrel
        have kp1 := hm.out.at KP6.out (fun e => by have := HP1.out; omega)
        have hmw6 : Mod (fun _ => False) w wr := HM6.out.then hm.out (fun j hj e => by omega)
        by_cases hlt : i < g.M.l.length
        · have hd := decide_eq_true hlt
          obtain ⟨x, hx⟩ : ∃ x, g.M.l[i]? = some x := ⟨_, List.getElem?_eq_getElem hlt⟩
          obtain ⟨gg, oo, C, U, fr, ha, kl, he, hle⟩ := sig_at (HO.out.2.2.1.mod0 hmw6) hx
          have hgw := slOk_lt HO.out.2.2 hx ha
          have HX := Lib.hid hx
          have hle2 : oo + i * 64 + 64 ≤ C.size := hle
          clear hx hmw6 hle
          obtain ⟨Tn, To, M, hM, hN7, hO7, hTT, hdis⟩ := HE.out
          have HTT := Lib.hid (And.intro hTT (And.intro hdis hM))
          have HN7 := Lib.hid hN7
          have HO7 := Lib.hid hO7
          clear hTT hdis hM hN7 hO7
          have hlN : (seL (g.M.l.take i)).length < 1000000 := by
            have h1 := seL_len (g.M.l.take i)
            have h2 := List.length_take_le i g.M.l
            omega
          have HLN := Lib.hid hlN
          clear hlN
          go_upto_region 14 with fail
          go_wp2_with fail
          go_at_call 30
          refine (mark0_c n _ x _ HN7.out (fun j hj => (HTT.out.1 j (.inl hj)).2) HLN.out).mono ?_
          rintro e w8 ⟨⟨v8, rfl⟩, hN8, m8⟩
          rw [← seL_snoc HX.out] at hN8
          replace kp1 := m8.at kp1 (fun e => by have h1 := HP1.out; have h2 := (HTT.out.1 _ (.inl e)).1; omega)
          replace kl := m8.at kl (fun e => by have h2 := (HTT.out.1 _ (.inl e)).1; omega)
          have HN8 := Lib.hid hN8
          have HO8 := Lib.hid (HO7.out.mod m8 (fun j hj e => HTT.out.2.1 j e hj))
          have HM8 := Lib.hid m8
          have hw8 := m8.size
          clear hN8 m8
          go_upto_region 15 with fail
          go_wp2_with fail
          go_at_call 31
          refine (rmark0_c o M x _ HO8.out (fun j hj => Nat.lt_of_lt_of_le (HTT.out.1 j (.inr hj)).2 HM8.out.size) (by have := HTT.out.2.2; omega)).mono ?_
          rintro e w9 ⟨⟨v9, rfl⟩, ⟨M', hM', hO9⟩, m9⟩
          have hN9 := HN8.out.mod m9 (fun j hj e => by
            rcases hj with hj | hj
            · exact HTT.out.2.1 j hj e
            · have := (HTT.out.1 j (.inr e)).2
              omega)
          have hm9 : Mod (fun i => wa.heap.size ≤ i) w6 w9 := (hm.out.trans (HM8.out.mono (fun j hj e => (HTT.out.1 j (.inl e)).1))).trans (m9.mono (fun j hj e => (HTT.out.1 j (.inr e)).1))
          have hwr : wa.heap.size ≤ wr.heap.size := Nat.le_trans (Nat.le_trans hw5 hw6) hm.out.size
          have hw9 := m9.size
          have HEND := Lib.hid (And.intro hm9 (And.intro hM' (And.intro hO9 hN9)))
          clear hm9 hM' hO9 hN9 m9
          go_wp2_with fail
          go_roundw
          case rel =>
            refine ⟨i + 1, by omega, by go_num, Lib.hid ⟨_, _, M', by have h1 := HEND.out.2.1; have h2 := HTT.out.2.2; omega, HEND.out.2.2.2, HEND.out.2.2.1, fun j hj => ?_, fun j hj hk => ?_⟩, Lib.hid HEND.out.1⟩
            · rcases hj with (hj | hj) | (hj | hj)
              · have := HTT.out.1 j (.inl hj); omega
              · omega
              · have := HTT.out.1 j (.inr hj); omega
              · omega
            · rcases hj with hj | hj
              · rcases hk with hk | hk
                · exact HTT.out.2.1 j hj hk
                · have := HTT.out.1 j (.inl hj); omega
              · rcases hk with hk | hk
                · have := HTT.out.1 j (.inr hk); omega
                · omega
          case measure => simp [intOf]; omega
        · have hd := decide_eq_false hlt
          obtain rfl : i = g.M.l.length := by omega
          obtain ⟨Tn, To, M, hM, hN7, hO7, hTT, hdis⟩ := HE.out
          rw [List.take_length] at hN7
          have HN7 := Lib.hid hN7
          have HTT := Lib.hid hTT
          have HQ7 : Hid (QuAt wr q (quL g.H.l)) := Lib.hid (HQ6.out.mod hm.out (fun e => by omega))
          have HS8 : Hid (StAt wr s sb (stL g.L.l)) := Lib.hid (HS7.out.mod hm.out (fun e => by omega) (fun e => by omega))
          have HMW := Lib.hid hmw6
          clear hTT hM hN7 hO7 hdis hmw6
          go_wp2_with fail
          go_at_call 21
          refine (open_c s q n g.lim _).mono ?_
          rintro e w10 ⟨b, t, m, rfl, hb1, ht1, hm1, kb, hT, m10⟩
          replace kp1 := m10.at0 kp1
          have HR10 := Lib.hid (And.intro kb (And.intro hT (And.intro (HQ7.out.mod0 m10) (And.intro (HN7.out.mod0 m10) (And.intro (HS8.out.mod0 m10) (HMW.out.then0 m10))))))
          have hw10 := m10.size
          clear kb hT m10
          go_wp2_with fail
          go_at_call 32
          refine (r27open_c r p23 o g.lim _).mono ?_
          rintro e w11 ⟨⟨r27, rfl⟩, m11⟩
          have HM11 := Lib.hid m11
          clear m11
          go_wp2_with fail
          exact bodyPost_ret (results_tmp3 rfl _ _ _) rfl (by
            obtain ⟨kb, hT, hQ, hN, hS, hM⟩ := HR10.out
            have m11 := HM11.out
            have hlb := lt_size kb
            have hlt := hT
            obtain ⟨kt, es, cc, km, _⟩ := hlt
            have hlT := lt_size kt
            have hlm := lt_size km
            have hsz := m11.size
            have hqlt : q < w4.heap.size := hlq.1
            have hwr : wa.heap.size ≤ wr.heap.size := Nat.le_trans (Nat.le_trans hw5 hw6) hm.out.size
            refine ⟨b, s, r27, sb, Tn, fun i => i = b ∨ i = t ∨ i = m, rfl, ⟨q, n, t, m, none, 0, 0, none, 0, 0, [], [], m11.at0 kb, ⟨hQ.mod0 m11, hN.mod0 m11, hT.mod0 m11⟩, ⟨SlOwn.nil _ _, rfl, fun x hx => by cases hx⟩, ⟨SlOwn.nil _ _, rfl, fun x hx => by cases hx⟩, ⟨.inl rfl, .inr (.inl rfl), .inr (.inr rfl), fun e => ?_, fun e => ?_⟩, ⟨(fun g h => by cases h), (fun g h => by cases h), (fun x hx => by cases hx), (fun x hx => by cases hx)⟩, fun i hi e => ?_⟩, fun i hi => ?_, hS.mod0 m11, hM.then0 m11⟩
            · rcases e with e | e | e <;> omega
            · have := (HTT.out q (.inl e)).1; omega
            · have := (HTT.out i (.inl hi)).2
              rcases e with e | e | e <;> omega
            · rcases hi with hi | hi | hi | hi
              · have := HTT.out i (.inl hi); omega
              all_goals omega)
end Go.Proofs.Ytofpnmoeimjnnaa
namespace Go.Proofs.Ytofpnmoeimjnnaa
open Go.RowKit
open Go.ChangeMaps (setBlock)
set_option linter.unusedSimpArgs false
set_option linter.unusedVariables false
attribute [local go_sem ↓] wlKey ldKey stKey wlAcct ldAcct stAcct wlHold ldHold stHold wlHash ldHash stHash wlSig ldSig stSig wlLim ldLim stLim wlRdy ldRdy stRdy wlOut ldOut stOut wlTd ldTd stTd wlTx ldTx stTx eqKey1
attribute [local go_sem] eqMap neMap av_size av_all av_one hd_size hd_key hd_acct hd_all hd_one zKey_size zAcct_size zHold_size zHash_size zSg_size zLim_size zRdy_size zOut_size zTried_size zTx_size cell_blk frozen_blk kc_ext one_int one_bool one_ptr one_slice one_map kc_one kc_one0 kc_size sgc_size sgc_ext sgc_one0 sgc_one' rdr_size rdr_all rdr_one rdr_tx rdr_rec rdr0 rdr1 rdr41 rdr0' rdr1' rdr41' ocr_size ocr_all ocr_one ocr2 ocr3 ocr4 ocr5 ocr2' ocr3' ocr4' ocr5' tdr_size tdr_all tdr_one tdr_r tdr_o tdr_tx tdr_rec tdr0 tdr1 tdr41 tdr50 tdr51 tdr52 tdr53 tdr0' tdr1' tdr41' tdr50' tdr51' tdr52' tdr53' txr_size txr_all txr_one txr0 txr38 txr39 txr0' txr38' txr39' Value.cells
theorem hmf (fn : Fn) (first cap : Array Value) (w : World) : (Instr.makeFunc fn first cap).run Try.prog w = .ok (.func fn first cap) w := rfl
abbrev fn1 (p : Nat) : Value := .func (.func 63) #[] #[ptrV p]
abbrev fn2 (p q : Nat) : Value := .func (.func 64) #[] #[ptrV p, ptrV q]
abbrev fn3 (p q : Nat) : Value := .func (.func 65) #[] #[ptrV q, ptrV p]
theorem bsSteps (p q : Nat) (w : World) : (Instr.buildSlice 170 3 #[(0, fn1 p), (1, fn2 p q), (2, fn3 p q)]).run Try.prog w = .ok (.slice (some ⟨w.heap.size, 0, none⟩) 3 3) (w.alloc (.cells #[fn1 p, fn2 p q, fn3 p q] 87)) := by kernel_rfl
theorem step1_c {b s q n t : Nat} {e : Bool} {ea : Option Addr} {en ec : Nat} {oa : Option Addr} {on oc : Nat} {f : UInt64} {p : Nat} (w : World) (kb : w.heap[b]? = some (.cells (blkC s q n t e ea en ec oa on oc f) 80 (0, 0))) (kp : w.heap[p]? = some (.cells #[ptrV b] 36 (0, 0))) :
    Calls Try.prog 63 #[ptrV p] w fun r w' => r = .returned (.int .i64 (if e then 23 else 0)) ∧ w = w' := by
  unfold blkC at kb
  cases e
  all_goals
    go_enter Try.func63, Try.ntmps63
    go_wp2
    go_ret
    exact ⟨rfl, rfl⟩
set_option maxRecDepth 20000 in
set_option maxHeartbeats 3200000 in
theorem verdict_g {b : Nat} {x : TdR} {w : World} {v1 v2 : Nat} {R : Nat → World → World → Prop}
    (h1 : ∀ p w1, w1.heap[p]? = some (.cells #[ptrV b] 36 (0, 0)) → Mod (fun _ => False) w w1 → Calls Try.prog 63 #[ptrV p] w1 fun e w' => e = .returned (.int .i64 (v1 : Int)) ∧ Mod (fun _ => False) w1 w')
    (h2 : v1 = 0 → ∀ p q w1, w1.heap[p]? = some (.cells #[ptrV b] 36 (0, 0)) → w1.heap[q]? = some (.cells (tdr x) 66 (0, 0)) → Mod (fun _ => False) w w1 → Calls Try.prog 64 #[ptrV p, ptrV q] w1 fun e w' => e = .returned (.int .i64 (v2 : Int)) ∧ Mod (fun _ => False) w1 w')
    (h3 : v1 = 0 → v2 = 0 → ∀ p q w1, w1.heap[p]? = some (.cells #[ptrV b] 36 (0, 0)) → w1.heap[q]? = some (.cells (tdr x) 66 (0, 0)) → Mod (fun _ => False) w w1 → Calls Try.prog 65 #[ptrV q, ptrV p] w1 fun e w' => ∃ v : Nat, e = .returned (.int .i64 (v : Int)) ∧ R v w1 w') :
    Calls Try.prog 34 #[ptrV b, .agg (tdr x)] w fun e w' => (v1 ≠ 0 ∧ e = .returned (.int .i64 (v1 : Int)) ∧ Mod (fun _ => False) w w') ∨ (v1 = 0 ∧ v2 ≠ 0 ∧ e = .returned (.int .i64 (v2 : Int)) ∧ Mod (fun _ => False) w w') ∨ (v1 = 0 ∧ v2 = 0 ∧ ∃ (v : Nat) (w1 : World), e = .returned (.int .i64 (v : Int)) ∧ R v w1 w' ∧ Mod (fun _ => False) w w1) := by
  have HH := Lib.hid (And.intro h1 (And.intro h2 h3))
  clear h1 h2 h3
  have hmf := hmf
  go_enter Try.func34, Try.ntmps34
  go_upto_region 0 with fail
  refine wp_pass0 (C := fun _ _ _ => False) (κ := fun i => [3, 3, 0].getD i 0) [0, 1, 2] (by kernel_rfl) (by kernel_rfl) (fun _ _ d _ _ h => by cases d <;> first | exact h | exact absurd h (hP _ _ _)) ?_
  (refine TD.box (v := ?v1) (by simp only [zA, zB, zC]; rfl) rfl ?hw1 rfl rfl ?hx1 (fun p2 hp2 => ?hn1); (case hw1 => rfl); (case hx1 => (simp only [Act.eval, zD, zA, zB, zC, zE]; (try rfl))); (try simp only [Act.put, zF, zG, zH]))
  (refine TD.box (v := ?v2) (by simp only [zA, zB, zC]; rfl) rfl ?hw2 rfl rfl ?hx2 (fun p3 hp3 => ?hn2); (case hw2 => rfl); (case hx2 => (simp only [Act.eval, zD, zA, zB, zC, zE]; (try rfl))); (try simp only [Act.put, zF, zG, zH]))
  obtain ⟨ne_p3_p2, hp3⟩ := Bx.set_none hp3
  (refine TD.val0 (v := ?v3) (by simp only [zA, zB, zC]; rfl) rfl ?hw3 (fun w1 => ?hy3) ?hn3; (case hw3 => rfl); (case hy3 => (go_simp; (try with_reducible rfl))); (try simp only [Act.put, zF, zG, zH]))
  refine TD.nil (fun w1 hr => ?_)
  have kp2 := hr.box p2 _ (by first | exact Bx.set_same _ _ _ | (simp only [Bx.set_ne _ (Ne.symm ne_p3_p2), Bx.set_ne _ ne_p3_p2, Bx.set_same]; rfl)); dsimp only [Value.cells] at kp2; obtain ⟨gp2, kp2⟩ := kp2
  have kp3 := hr.box p3 _ (by first | exact Bx.set_same _ _ _ | (simp only [Bx.set_ne _ (Ne.symm ne_p3_p2), Bx.set_ne _ ne_p3_p2, Bx.set_same]; rfl)); dsimp only [Value.cells] at kp3; obtain ⟨gp3, kp3⟩ := kp3
  have m1 := hr.mod
  clear hr
  have hbs := bsSteps p2 p3
  go_upto_region 2 with fail
  obtain ⟨w2, g, hg, kg, m2, e2⟩ : ∃ w2 g, w1.heap.size = g ∧ w2.heap[g]? = some (.cells #[fn1 p2, fn2 p2 p3, fn3 p2 p3] 87 (0, 0)) ∧ Mod (fun _ => False) w1 w2 ∧ w2 = w1.alloc (.cells #[fn1 p2, fn2 p2 p3, fn3 p2 p3] 87) := ⟨_, _, rfl, heap_alloc_new _ _, (Mod.refl _ _).alloc _, rfl⟩
  rw [← e2, hg]
  have k2 := m2.at0 kp2
  have k3 := m2.at0 kp3
  have mm := m1.then0 m2
  clear e2 hg m2 kp2 kp3 hbs
  go_wp2_with fail
  go_loopw [15] (fun s15 ws => ∃ i : Nat, i ≤ 3 ∧ s15 = .int .i64 (i : Int) ∧ Hid (0 < i → v1 = 0) ∧ Hid (1 < i → v2 = 0) ∧ (i < 3 ∧ Mod (fun _ => False) w ws ∧ ws.heap[g]? = some (.cells #[fn1 p2, fn2 p2 p3, fn3 p2 p3] 87 (0, 0)) ∧ ws.heap[p2]? = some (.cells #[ptrV b] 36 (0, 0)) ∧ ws.heap[p3]? = some (.cells (tdr x) 66 (0, 0)) ∨ i = 3 ∧ Hid (∃ wx, R 0 wx ws ∧ Mod (fun _ => False) w wx))) (fun s15 _ => 3 - (intOf s15).toNat)
  case atStart => exact ⟨0, by omega, rfl, Lib.hid (by omega), Lib.hid (by omega), .inl ⟨by omega, mm, kg, k2, k3⟩⟩
  case round =>
    obtain ⟨i, hi, rfl, HV1, HV2, hcase⟩ := hrel
    clear kg k2 k3 mm
    rcases hcase with ⟨hi3, mm, kg, k2, k3⟩ | ⟨rfl, HR⟩
    · have hc : i = 0 ∨ i = 1 ∨ i = 2 := by omega
      rcases hc with rfl | rfl | rfl
      · go_wp2_with fail
        refine (HH.out.1 _ _ k2 mm).mono ?_
        rintro e w3 ⟨rfl, m3⟩
        have mm3 := mm.then0 m3
        have kg3 := m3.at0 kg
        have k23 := m3.at0 k2
        have k33 := m3.at0 k3
        by_cases hv : v1 = 0
        · have HV := Lib.hid hv
          have hne : ((v1 : Int) != 0) = false := by rw [hv]; rfl
          clear hv kg k2 k3 mm m3
          go_wp2_with fail
          go_roundw
          case rel => exact ⟨1, by omega, by go_num, Lib.hid (fun _ => HV.out), Lib.hid (by omega), .inl ⟨by omega, mm3, kg3, k23, k33⟩⟩
          case measure => simp [intOf]
        · have HV := Lib.hid hv
          have hne : ((v1 : Int) != 0) = true := by rw [bne_iff_ne]; omega
          clear hv kg k2 k3 mm m3
          go_wp2_with fail
          go_ret
          exact .inl ⟨HV.out, rfl, mm3⟩
      · have HV := Lib.hid (HV1.out (by omega))
        go_wp2_with fail
        refine (HH.out.2.1 HV.out _ _ _ k2 k3 mm).mono ?_
        rintro e w3 ⟨rfl, m3⟩
        have mm3 := mm.then0 m3
        have kg3 := m3.at0 kg
        have k23 := m3.at0 k2
        have k33 := m3.at0 k3
        by_cases hv : v2 = 0
        · have HVV := Lib.hid hv
          have hne : ((v2 : Int) != 0) = false := by rw [hv]; rfl
          clear hv kg k2 k3 mm m3
          go_wp2_with fail
          go_roundw
          case rel => exact ⟨2, by omega, by go_num, Lib.hid (fun _ => HV.out), Lib.hid (fun _ => HVV.out), .inl ⟨by omega, mm3, kg3, k23, k33⟩⟩
          case measure => simp [intOf]
        · have HVV := Lib.hid hv
          have hne : ((v2 : Int) != 0) = true := by rw [bne_iff_ne]; omega
          clear hv kg k2 k3 mm m3
          go_wp2_with fail
          go_ret
          exact .inr (.inl ⟨HV.out, HVV.out, rfl, mm3⟩)
      · have HV := Lib.hid (HV1.out (by omega))
        have HVV := Lib.hid (HV2.out (by omega))
        go_wp2_with fail
        refine (HH.out.2.2 HV.out HVV.out _ _ _ k2 k3 mm).mono ?_
        rintro e w3 ⟨v, rfl, hR⟩
        have HR := Lib.hid hR
        have HM := Lib.hid mm
        by_cases hv : v = 0
        · subst hv
          clear kg k2 k3 mm hR
          go_wp2_with fail
          go_roundw
          case rel => exact ⟨3, by omega, by go_num, Lib.hid (fun _ => HV.out), Lib.hid (fun _ => HVV.out), .inr ⟨rfl, Lib.hid ⟨_, HR.out, HM.out⟩⟩⟩
          case measure => simp [intOf]
        · have hne : ((v : Int) != 0) = true := by rw [bne_iff_ne]; omega
          clear hv kg k2 k3 mm hR
          go_wp2_with fail
          go_ret
          exact .inr (.inr ⟨HV.out, HVV.out, v, _, rfl, HR.out, HM.out⟩)
    · go_wp2_with fail
      go_ret
      obtain ⟨wx, hr, hm⟩ := HR.out
      exact .inr (.inr ⟨HV1.out (by omega), HV2.out (by omega), 0, wx, rfl, hr, hm⟩)
end Go.Proofs.Ytofpnmoeimjnnaa
namespace Go.Proofs.Ytofpnmoeimjnnaa
open Go.RowKit
open Go.ChangeMaps (setBlock)
set_option linter.unusedSimpArgs false
set_option linter.unusedVariables false
attribute [local go_sem ↓] wlKey ldKey stKey wlAcct ldAcct stAcct wlHold ldHold stHold wlHash ldHash stHash wlSig ldSig stSig wlLim ldLim stLim wlRdy ldRdy stRdy wlOut ldOut stOut wlTd ldTd stTd wlTx ldTx stTx eqKey1
attribute [local go_sem] eqMap neMap av_size av_all av_one hd_size hd_key hd_acct hd_all hd_one zKey_size zAcct_size zHold_size zHash_size zSg_size zLim_size zRdy_size zOut_size zTried_size zTx_size cell_blk frozen_blk kc_ext one_int one_bool one_ptr one_slice one_map kc_one kc_one0 kc_size sgc_size sgc_ext sgc_one0 sgc_one' rdr_size rdr_all rdr_one rdr_tx rdr_rec rdr0 rdr1 rdr6 rdr39 rdr40 rdr41 rdr0' rdr1' rdr6' rdr39' rdr40' rdr41' ocr_size ocr_all ocr_one ocr2 ocr3 ocr4 ocr5 ocr2' ocr3' ocr4' ocr5' tdr_size tdr_all tdr_one tdr_r tdr_o tdr_tx tdr_rec tdr0 tdr1 tdr41 tdr50 tdr51 tdr52 tdr53 tdr0' tdr1' tdr41' tdr50' tdr51' tdr52' tdr53' txr_size txr_all txr_one txr0 txr38 txr39 txr0' txr38' txr39' Value.cells
theorem addLaid (x y : Nat) (hx : x < 18446744073709551616) (hy : y < 18446744073709551616) (w : World) : (callFunc 70 #[.int .u64 (x : Int), .int .u64 (y : Int), .int .u64 0]).run Try.prog w =
      .ok (.value (.tuple #[.int .u64 (((x + y) % 18446744073709551616 : Nat) : Int), .int .u64 (((x + y) / 18446744073709551616 : Nat) : Int)])) w := by
  rw [run_callFunc_extern Try.func70 (by kernel_rfl) (by kernel_rfl) (by kernel_rfl) (e := add64Entry) (by kernel_rfl), run_add64 x y 0 (by omega) (by omega) (by omega) (by omega)]
  simp only [Result.andThen]
  congr 5 <;> omega
theorem addL0 (x : UInt64) (w : World) : (callFunc 70 #[.int .u64 0, u64v x, .int .u64 0]).run Try.prog w = .ok (.value (.tuple #[u64v x, .int .u64 0])) w := by
  have h := addLaid 0 x.toNat (by omega) x.toNat_lt w
  have hx := x.toNat_lt
  rw [Nat.zero_add, Nat.mod_eq_of_lt hx, Nat.div_eq_of_lt hx] at h
  exact h
theorem addL2 (x y : UInt64) (w : World) : (callFunc 70 #[u64v x, u64v y, .int .u64 0]).run Try.prog w = .ok (.value (.tuple #[u64v (x + y), .int .u64 (if 18446744073709551616 ≤ x.toNat + y.toNat then 1 else 0)])) w := by
  have h := addLaid x.toNat y.toNat x.toNat_lt y.toNat_lt w
  have hx := x.toNat_lt
  have hy := y.toNat_lt
  refine h.trans ?_
  rw [u64v, UInt64.toNat_add]
  by_cases hc : 18446744073709551616 ≤ x.toNat + y.toNat
  · rw [if_pos hc, show (x.toNat + y.toNat) / 18446744073709551616 = 1 by omega]
    rfl
  · rw [if_neg hc, show (x.toNat + y.toNat) / 18446744073709551616 = 0 by omega]
    rfl
theorem sat_over {a b : UInt64} (h : 18446744073709551616 ≤ a.toNat + b.toNat) : u64v (sat a b) = .int .u64 18446744073709551615 := by
  unfold sat
  rw [if_neg (by omega)]
  rfl
theorem sat_in {a b : UInt64} (h : ¬ 18446744073709551616 ≤ a.toNat + b.toNat) : sat a b = a + b := by
  unfold sat
  rw [if_pos (by omega)]
set_option maxRecDepth 20000 in
set_option maxHeartbeats 1600000 in
theorem tsum_c (g : Nat) (a b : UInt64) (w : World) (kg : w.heap[g]? = some (.cells #[u64v a, u64v b] 25 (0, 0))) : Calls Try.prog 86 #[.slice (some ⟨g, 0, none⟩) 2 2] w fun e w' => e = .returned (u64v (sat a b)) ∧ Mod (fun _ => False) w w' := by
  have h0 := addL0 a
  have h2 := addL2 a b
  go_enter Try.func86, Try.ntmps86
  by_cases hc : 18446744073709551616 ≤ a.toNat + b.toNat
  · have HC := Lib.hid (sat_over hc)
    simp only [if_pos hc] at h2
    clear hc
    go_wp2_with (simp only [h0, h2])
    go_loopw [2, 9] (fun s2 s9 ws => ∃ i : Nat, i ≤ 1 ∧ s9 = .int .i64 (i : Int) ∧ s2 = (if i = 0 then .int .u64 0 else u64v a) ∧ Mod (fun _ => False) w ws) (fun _ s9 _ => 2 - (intOf s9).toNat)
    case atStart => exact ⟨0, by omega, rfl, rfl, Mod.refl _ _⟩
    case round =>
      obtain ⟨i, hi, rfl, rfl, hm⟩ := hrel
      replace kg := hm.at0 kg
      rcases (by omega : i = 0 ∨ i = 1) with rfl | rfl
      · simp only [if_true]
        go_wp2_with (simp only [h0, h2])
        go_roundw
        case rel => exact ⟨1, by omega, by go_num, rfl, hm⟩
        case measure => simp [intOf]
      · simp only [Nat.one_ne_zero, if_false]
        go_wp2_with (simp only [h0, h2])
        go_ret
        exact ⟨by rw [HC.out]; rfl, hm⟩
  · have HC := Lib.hid (sat_in hc)
    simp only [if_neg hc] at h2
    clear hc
    go_wp2_with (simp only [h0, h2])
    go_loopw [2, 9] (fun s2 s9 ws => ∃ i : Nat, i ≤ 2 ∧ s9 = .int .i64 (i : Int) ∧ s2 = (if i = 0 then .int .u64 0 else if i = 1 then u64v a else u64v (a + b)) ∧ Mod (fun _ => False) w ws) (fun _ s9 _ => 2 - (intOf s9).toNat)
    case atStart => exact ⟨0, by omega, rfl, rfl, Mod.refl _ _⟩
    case round =>
      obtain ⟨i, hi, rfl, rfl, hm⟩ := hrel
      replace kg := hm.at0 kg
      rcases (by omega : i = 0 ∨ i = 1 ∨ i = 2) with rfl | rfl | rfl
      · simp only [if_true]
        go_wp2_with (simp only [h0, h2])
        go_roundw
        case rel => exact ⟨1, by omega, by go_num, rfl, hm⟩
        case measure => simp [intOf]
      · simp only [Nat.one_ne_zero, if_false, if_true]
        go_wp2_with (simp only [h0, h2])
        go_roundw
        case rel => exact ⟨2, by omega, by go_num, rfl, hm⟩
        case measure => simp [intOf]
      · simp only [show ¬ (2 : Nat) = 0 by omega, show ¬ (2 : Nat) = 1 by omega, if_false]
        go_wp2_with (simp only [h0, h2])
        go_ret
        exact ⟨by rw [HC.out]; rfl, hm⟩
theorem or_zero (a : UInt64) : bits .or .u64 (a.toNat : Int) 0 = (a.toNat : Int) := by
  have h := bits_or_u64_nat a.toNat 0 a.toNat_lt (by omega)
  rw [Nat.or_zero] at h
  exact h
theorem or_max (a : UInt64) : bits .or .u64 (a.toNat : Int) 18446744073709551615 = 18446744073709551615 := by
  have h := bits_or_u64_nat a.toNat 18446744073709551615 a.toNat_lt (by omega)
  have e : a.toNat ||| 18446744073709551615 = 18446744073709551615 := by
    have ha := a.toNat_lt
    apply Nat.eq_of_testBit_eq
    intro i
    rw [Nat.testBit_or]
    have h1 : (18446744073709551615 : Nat).testBit i = decide (i < 64) := Nat.testBit_two_pow_sub_one 64 i
    rw [h1]
    by_cases hi : i < 64
    · simp [hi]
    · have : a.toNat.testBit i = false := Nat.testBit_lt_two_pow (Nat.lt_of_lt_of_le ha (Nat.pow_le_pow_right (by omega) (by omega)))
      simp [hi, this]
  rw [e] at h
  exact h
theorem adds_cast (a x : UInt64) : ((a.toNat : Int) + (x.toNat : Int)) % 18446744073709551616 = ((a + x).toNat : Int) := by
  rw [UInt64.toNat_add]
  omega
theorem alU64 (w : World) : (Instr.alloc 25 true (.tuple #[])).run Try.prog w = .ok (.pointer (some ⟨w.heap.size, 0, none⟩)) (w.alloc (.cells #[.int .u64 0] 25)) := by kernel_rfl
theorem setBlk (w : World) {p : Nat} {o o' : Obj} (h : w.heap[p]? = some o) : (setBlock w p o').heap[p]? = some o' := heap_setBlock w o' (lt_size h)
set_option maxRecDepth 20000 in
set_option maxHeartbeats 1600000 in
theorem wsum1_c (p : Nat) (a x : UInt64) (w : World) (kp : w.heap[p]? = some (.cells #[u64v a] 25 (0, 0))) : Calls Try.prog 69 #[u64v x, ptrV p] w fun e w' => e = .returned (.tuple #[]) ∧ w'.heap[p]? = some (.cells #[u64v (sat a x)] 25 (0, 0)) ∧ Mod (fun i => i = p) w w' := by
  have h2 := addL2 a x
  have ho := or_zero (a + x)
  have hm := or_max (a + x)
  go_enter Try.func69, Try.ntmps69
  by_cases hc : 18446744073709551616 ≤ a.toNat + x.toNat
  · have HC := Lib.hid (sat_over hc)
    simp only [if_pos hc] at h2
    clear hc ho
    have HM := Lib.hid hm
    clear hm
    go_wp2_with (simp only [h2])
    go_end0
    rw [setCell_blk kp]
    refine ⟨rfl, ?_, mod_set _ _ _⟩
    rw [setBlk w kp, HC.out, adds_cast a x, show IntKind.u64.wrap (-1) = 18446744073709551615 from rfl, HM.out]
    rfl
  · have HC := Lib.hid (sat_in hc)
    simp only [if_neg hc] at h2
    clear hc hm
    have HO := Lib.hid ho
    clear ho
    go_wp2_with (simp only [h2])
    go_end0
    rw [setCell_blk kp]
    refine ⟨rfl, ?_, mod_set _ _ _⟩
    rw [setBlk w kp, HC.out, adds_cast a x, HO.out]
    rfl
theorem sat_zero (x : UInt64) : sat 0 x = x := by
  have h := x.toNat_lt
  rw [sat_in (by show ¬ 18446744073709551616 ≤ 0 + x.toNat; omega), UInt64.zero_add]
set_option maxRecDepth 20000 in
set_option maxHeartbeats 1600000 in
theorem wsum_c (g : Nat) (a b : UInt64) (w : World) (kg : w.heap[g]? = some (.cells #[u64v a, u64v b] 25 (0, 0))) : Calls Try.prog 37 #[.slice (some ⟨g, 0, none⟩) 2 2] w fun e w' => e = .returned (u64v (sat a b)) ∧ Mod (fun _ => False) w w' := by
  have hmf := hmf
  go_enter Try.func37, Try.ntmps37
  go_upto_region 1 with fail
  have Lkg := lt_size kg
  refine wp_pass0 (C := fun _ _ _ => False) (κ := fun i => [3, 4].getD i 0) [0, 1] (by kernel_rfl) (by kernel_rfl) (fun _ _ d _ _ h => by cases d <;> first | exact h | exact absurd h (hP _ _ _)) ?_
  (refine TD.allocB (by simp only [zA, zB, zC]; rfl) rfl ?hw1 rfl rfl alU64 (fun p3 hp3 => ?hn1); (case hw1 => rfl); (try simp only [Act.put, zF, zG, zH]))
  (refine TD.storeB (d := ?d2) (T := ?T2) (y := ?y2) (p := ?p2) (b := ?b2) (v := ?v2) (by simp only [zA, zB, zC]; rfl) rfl ?hw2 ?hd2 ?hop2 ?hev2 ?hx2 ?hb2 ?htag2 (fun w1 hb1 => ?hy2) ?hn2; (case hw2 => rfl); (case hd2 => rfl); (case hop2 => rfl); (case hev2 => (simp only [Act.eval, zD, zA, zB, zC, zE]; (try rfl))); (case hx2 => (simp only [Act.eval, zD, zA, zB, zC, zE]; (try rfl))); (case hb2 => first | exact Bx.set_same _ _ _ | (simp only [Bx.set_same]; rfl)); (case hy2 => (go_simp; (try first | with_reducible rfl | (rw [setCell_blk hb1]; rfl)))); (try simp only [Act.put, zF, zG, zH]))
  refine TD.nil (fun w1 hr => ?_)
  replace kg := hr.mod.at kg (fun h => h)
  have kp3 := hr.box p3 _ (by first | exact Bx.set_same _ _ _ | (simp only [Bx.set_same]; rfl)); dsimp only [Value.cells] at kp3; obtain ⟨gp3, kp3⟩ := kp3
  have m1 := hr.mod
  clear hr
  have hgp : g ≠ p3 := by omega
  have KG := Lib.hid kg
  clear kg
  go_wp2_with fail
  go_loopw [10] (fun s10 ws => ∃ i : Nat, i ≤ 2 ∧ s10 = .int .i64 (i : Int) ∧ ws.heap[p3]? = some (.cells #[u64v (if i = 0 then 0 else if i = 1 then a else sat a b)] 25 (0, 0)) ∧ Mod (fun i => i = p3) w1 ws) (fun s10 _ => 2 - (intOf s10).toNat)
  case atStart => exact ⟨0, by omega, rfl, kp3, Mod.refl _ _⟩
  case round =>
    obtain ⟨i, hi, rfl, kp, hm⟩ := hrel
    have kg := hm.at_ne KG.out hgp
    clear kp3
    rcases (by omega : i = 0 ∨ i = 1 ∨ i = 2) with rfl | rfl | rfl
    · simp only [if_true] at kp
      have KP := Lib.hid kp
      go_wp2_with fail
      refine (wsum1_c p3 0 a _ KP.out).mono ?_
      rintro e w3 ⟨rfl, k3, m3⟩
      rw [sat_zero] at k3
      have m3 := hm.trans m3
      clear kp kg
      go_wp2_with fail
      go_roundw
      case rel => exact ⟨1, by omega, by go_num, by simpa using k3, m3⟩
      case measure => simp [intOf]
    · simp only [Nat.one_ne_zero, if_false, if_true] at kp
      have KP := Lib.hid kp
      go_wp2_with fail
      refine (wsum1_c p3 a b _ KP.out).mono ?_
      rintro e w3 ⟨rfl, k3, m3⟩
      have m3 := hm.trans m3
      clear kp kg
      go_wp2_with fail
      go_roundw
      case rel => exact ⟨2, by omega, by go_num, by simpa using k3, m3⟩
      case measure => simp [intOf]
    · simp only [show ¬ (2 : Nat) = 0 by omega, show ¬ (2 : Nat) = 1 by omega, if_false] at kp
      clear kg
      go_wp2_with fail
      go_ret
      exact ⟨rfl, m1.thenB hm (.inl gp3)⟩
end Go.Proofs.Ytofpnmoeimjnnaa
namespace Go.Proofs.Ytofpnmoeimjnnaa
open Go.RowKit
open Go.ChangeMaps (setBlock)
set_option linter.unusedSimpArgs false
set_option linter.unusedVariables false
attribute [local go_sem ↓] wlKey ldKey stKey wlAcct ldAcct stAcct wlHold ldHold stHold wlHash ldHash stHash wlSig ldSig stSig wlLim ldLim stLim wlRdy ldRdy stRdy wlOut ldOut stOut wlTd ldTd stTd wlTx ldTx stTx eqKey1
attribute [local go_sem] eqMap neMap av_size av_all av_one hd_size hd_key hd_acct hd_all hd_one zKey_size zAcct_size zHold_size zHash_size zSg_size zLim_size zRdy_size zOut_size zTried_size zTx_size cell_blk frozen_blk kc_ext one_int one_bool one_ptr one_slice one_map kc_one kc_one0 kc_size sgc_size sgc_ext sgc_one0 sgc_one' rdr_size rdr_all rdr_one rdr_tx rdr_rec rdr0 rdr1 rdr6 rdr39 rdr40 rdr41 rdr0' rdr1' rdr6' rdr39' rdr40' rdr41' ocr_size ocr_all ocr_one ocr2 ocr3 ocr4 ocr5 ocr2' ocr3' ocr4' ocr5' tdr_size tdr_all tdr_one tdr_r tdr_o tdr_tx tdr_rec tdr0 tdr1 tdr41 tdr50 tdr51 tdr52 tdr53 tdr0' tdr1' tdr41' tdr50' tdr51' tdr52' tdr53' txr_size txr_all txr_one txr0 txr38 txr39 txr0' txr38' txr39' Value.cells
set_option maxHeartbeats 1000000 in
theorem mul64_c (x y : Nat) (hx : x < 18446744073709551616) (hy : y < 18446744073709551616) (w : World) :
    Calls Try.prog 101 #[.int .u64 x, .int .u64 y] w fun e w' => e = .returned (.tuple #[.int .u64 ((x * y / 18446744073709551616 : Nat) : Int), .int .u64 ((x * y % 18446744073709551616 : Nat) : Int)]) ∧ w' = w := by
  obtain ⟨bd, bt, bw, hhi⟩ := Lib.mul64_hi x y hx hy
  have ba := Lib.half_mul_le (a := x / 4294967296) (b := y / 4294967296) (by omega) (by omega)
  have bb := Lib.half_mul_le (a := x / 4294967296) (b := y % 4294967296) (by omega) (by omega)
  have bc := Lib.half_mul_le (a := x % 4294967296) (b := y / 4294967296) (by omega) (by omega)
  have ba' : x / 4294967296 * (y / 4294967296) < 18446744073709551616 := by omega
  have bb' : x / 4294967296 * (y % 4294967296) < 18446744073709551616 := by omega
  have bc' : x % 4294967296 * (y / 4294967296) < 18446744073709551616 := by omega
  have bh1 : x / 4294967296 * (y / 4294967296) + (x / 4294967296 * (y % 4294967296) + x % 4294967296 * (y % 4294967296) / 4294967296) / 4294967296 < 18446744073709551616 := by omega
  have bh : x / 4294967296 * (y / 4294967296) + (x / 4294967296 * (y % 4294967296) + x % 4294967296 * (y % 4294967296) / 4294967296) / 4294967296 + ((x / 4294967296 * (y % 4294967296) + x % 4294967296 * (y % 4294967296) / 4294967296) % 4294967296 + x % 4294967296 * (y / 4294967296)) / 4294967296 < 18446744073709551616 := by omega
  go_enter Try.func101, Try.ntmps101
  go_wp2
  simp only [Mul64.maskN x hx, Mul64.maskN y hy, Mul64.divN, Mul64.mulN, Mul64.addN, Mul64.wrapN _ bd, Mul64.wrapN _ bb', Mul64.wrapN _ bt, Mul64.maskN _ bt, Mul64.wrapN _ bc', Mul64.wrapN _ bw, Mul64.wrapN _ ba', Mul64.wrapN _ bh1, Mul64.wrapN _ bh, Mul64.wrapM (x * y)]
  rw [hhi]
  go_ret2
  exact ⟨rfl, rfl⟩
theorem mul_c (x y : UInt64) (w : World) : Calls Try.prog 91 #[u64v x, u64v y] w fun e w' => e = .returned (.tuple #[.int .u64 ((x.toNat * y.toNat / 18446744073709551616 : Nat) : Int), .int .u64 ((x.toNat * y.toNat % 18446744073709551616 : Nat) : Int)]) ∧ w' = w := by
  have H := mul64_c x.toNat y.toNat x.toNat_lt y.toNat_lt
  generalize x.toNat * y.toNat / 18446744073709551616 = hi at *
  generalize x.toNat * y.toNat % 18446744073709551616 = lo at *
  have HH := Lib.hid H
  clear H
  go_enter Try.func91, Try.ntmps91
  go_wp2_with fail
  go_at_call 101
  refine (HH.out _).mono ?_
  rintro e w2 ⟨rfl, rfl⟩
  go_wp2_with fail
  go_ret2
  exact ⟨rfl, rfl⟩
theorem div1_c (z : UInt64) (w : World) : Calls Try.prog 92 #[.int .u64 0, u64v z, .int .u64 1] w fun e w' => (∃ r, e = .returned (.tuple #[u64v z, .int .u64 r])) ∧ Mod (fun _ => False) w w' := by
  have hw : IntKind.u64.wrap (z.toNat : Int) = (z.toNat : Int) := Mul64.wrapN _ z.toNat_lt
  go_enter Try.func92, Try.ntmps92
  go_upto_region 6 with fail
  refine wp_pass (C := fun _ _ _ => False) (κ := fun i => [0, 0, 0, 0, 0, 0, 0, 0].getD i 0) [0, 1, 2, 3, 4, 5, 6, 7] (by kernel_rfl) (by kernel_rfl) (fun _ _ d _ _ h => by cases d <;> first | exact h | exact absurd h (hP _ _ _)) ?_
  (refine TD.val0 (v := ?v1) (by simp only [zA, zB, zC]; rfl) rfl ?hw1 (fun w1 => ?hy1) ?hn1; (case hw1 => rfl); (case hy1 => (go_simp; (try with_reducible rfl))); (try simp only [Act.put, zF, zG, zH]))
  (refine TD.val0 (v := ?v2) (by simp only [zA, zB, zC]; rfl) rfl ?hw2 (fun w1 => ?hy2) ?hn2; (case hw2 => rfl); (case hy2 => (go_simp; (try with_reducible rfl))); (try simp only [Act.put, zF, zG, zH]))
  (refine TD.val0 (v := ?v3) (by simp only [zA, zB, zC]; rfl) rfl ?hw3 (fun w1 => ?hy3) ?hn3; (case hw3 => rfl); (case hy3 => (go_simp; (try with_reducible rfl))); (try simp only [Act.put, zF, zG, zH]))
  (refine TD.val0 (v := ?v4) (by simp only [zA, zB, zC]; rfl) rfl ?hw4 (fun w1 => ?hy4) ?hn4; (case hw4 => rfl); (case hy4 => (go_simp; (try with_reducible rfl))); (try simp only [Act.put, zF, zG, zH]))
  (refine TD.val0 (v := ?v5) (by simp only [zA, zB, zC]; rfl) rfl ?hw5 (fun w1 => ?hy5) ?hn5; (case hw5 => rfl); (case hy5 => (go_simp; (try with_reducible rfl))); (try simp only [Act.put, zF, zG, zH]))
  (refine TD.val0 (v := ?v6) (by simp only [zA, zB, zC]; rfl) rfl ?hw6 (fun w1 => ?hy6) ?hn6; (case hw6 => rfl); (case hy6 => (go_simp; (try with_reducible rfl))); (try simp only [Act.put, zF, zG, zH]))
  (refine TD.val0 (v := ?v7) (by simp only [zA, zB, zC]; rfl) rfl ?hw7 (fun w1 => ?hy7) ?hn7; (case hw7 => rfl); (case hy7 => (go_simp; (try with_reducible rfl))); (try simp only [Act.put, zF, zG, zH]))
  (refine TD.val0 (v := ?v8) (by simp only [zA, zB, zC]; rfl) rfl ?hw8 (fun w1 => ?hy8) ?hn8; (case hw8 => rfl); (case hy8 => (go_simp; (try with_reducible rfl))); (try simp only [Act.put, zF, zG, zH]))
  refine TD.nil (fun w1 hr => ?_)
  have m1 := hr.mod
  go_wp2_with fail
  go_ret2
  exact ⟨⟨_, rfl⟩, m1⟩
def tim (a b : UInt64) : UInt64 := if a.toNat * b.toNat < 18446744073709551616 then a * b else 18446744073709551615
set_option maxRecDepth 20000 in
theorem times1_c (a b : UInt64) (w : World) : Calls Try.prog 88 #[u64v a, u64v b, .int .u64 1, .bool false] w fun e w' => e = .returned (u64v (tim a b)) ∧ Mod (fun _ => False) w w' := by
  by_cases hc : a.toNat * b.toNat < 18446744073709551616
  · have h1 : a.toNat * b.toNat / 18446744073709551616 = 0 := Nat.div_eq_of_lt hc
    have h2 : ((a.toNat * b.toNat % 18446744073709551616 : Nat) : Int) = ((tim a b).toNat : Int) := by
      unfold tim
      rw [if_pos hc, UInt64.toNat_mul]
    have hT := mul_c a b
    rw [h1, h2] at hT
    generalize tim a b = z at *
    have HT := Lib.hid hT
    clear hT h1 h2 hc
    go_enter Try.func88, Try.ntmps88
    go_wp2_with fail
    go_at_call 91
    refine (HT.out _).mono ?_
    rintro e w2 ⟨rfl, rfl⟩
    go_wp2_with fail
    go_at_call 92
    refine (div1_c z _).mono ?_
    rintro e w3 ⟨⟨r, rfl⟩, m3⟩
    go_wp2_with fail
    go_ret
    exact ⟨rfl, m3⟩
  · obtain ⟨hi, hhi⟩ : ∃ hi, a.toNat * b.toNat / 18446744073709551616 = hi := ⟨_, rfl⟩
    obtain ⟨lo, hlo⟩ : ∃ lo, a.toNat * b.toNat % 18446744073709551616 = lo := ⟨_, rfl⟩
    have h2 : u64v (tim a b) = .int .u64 18446744073709551615 := by
      unfold tim
      rw [if_neg hc]
      rfl
    have hge : (1 : Int) ≤ (hi : Int) := by
      have := Nat.le_of_not_lt hc
      omega
    have hT := mul_c a b
    rw [hhi, hlo] at hT
    have HT := Lib.hid hT
    have H2 := Lib.hid h2
    clear hT h2 hc hhi hlo
    go_enter Try.func88, Try.ntmps88
    go_wp2_with fail
    go_at_call 91
    refine (HT.out _).mono ?_
    rintro e w2 ⟨rfl, rfl⟩
    go_wp2_with fail
    go_ret
    exact ⟨by rw [H2.out]; rfl, Mod.refl _ _⟩
end Go.Proofs.Ytofpnmoeimjnnaa
namespace Go.Proofs.Ytofpnmoeimjnnaa
open Go.RowKit
open Go.ChangeMaps (setBlock)
set_option linter.unusedSimpArgs false
set_option linter.unusedVariables false
attribute [local go_sem ↓] wlKey ldKey stKey wlAcct ldAcct stAcct wlHold ldHold stHold wlHash ldHash stHash wlSig ldSig stSig wlLim ldLim stLim wlRdy ldRdy stRdy wlOut ldOut stOut wlTd ldTd stTd wlTx ldTx stTx eqKey1
attribute [local go_sem] eqMap neMap av_size av_all av_one hd_size hd_key hd_acct hd_all hd_one zKey_size zAcct_size zHold_size zHash_size zSg_size zLim_size zRdy_size zOut_size zTried_size zTx_size cell_blk frozen_blk kc_ext one_int one_bool one_ptr one_slice one_map kc_one kc_one0 kc_size sgc_size sgc_ext sgc_one0 sgc_one' rdr_size rdr_all rdr_one rdr_tx rdr_rec rdr0 rdr1 rdr6 rdr39 rdr40 rdr41 rdr0' rdr1' rdr6' rdr39' rdr40' rdr41' ocr_size ocr_all ocr_one ocr2 ocr3 ocr4 ocr5 ocr2' ocr3' ocr4' ocr5' tdr_size tdr_all tdr_one tdr_r tdr_o tdr_tx tdr_rec tdr0 tdr1 tdr41 tdr50 tdr51 tdr52 tdr53 tdr0' tdr1' tdr41' tdr50' tdr51' tdr52' tdr53' txr_size txr_all txr_one txr0 txr38 txr39 txr0' txr38' txr39' Value.cells
attribute [local go_sem] Oper.semAt_some
attribute [local go_sem ↓] wlIn ldIn stIn
theorem inr_size (y : InR) : (inr y).size = 3 := rfl
theorem inr_all (y : InR) : (inr y).extract 0 3 = inr y := rfl
theorem inr_one (y : InR) : (inr y).all (·.oneCell') 0 3 = true := by simp [inr, Value.oneCell']
theorem zIn_size : zIn.size = 3 := rfl
theorem inr2 (y : InR) : (inr y)[2]? = some (.slice y.d.a y.d.l.length y.d.c) := rfl
theorem inr2' (y : InR) (h : 2 < (inr y).size) : (inr y)[2] = .slice y.d.a y.d.l.length y.d.c := rfl
attribute [local go_sem] inr_size inr_all inr_one zIn_size inr2 inr2'
def dSum (l : List InR) : UInt64 := l.foldl (fun d x => d + UInt64.ofNat x.d.l.length) 0
theorem dSum_snoc {l : List InR} {i : Nat} {x : InR} (hx : l[i]? = some x) : dSum (l.take (i + 1)) = dSum (l.take i) + UInt64.ofNat x.d.l.length := by
  rw [List.take_add_one, hx]
  simp [dSum]
theorem parts_c (x : RdR) (n : Int) (u : UInt64) (w : World) : Calls Try.prog 73 #[.agg (txr x), .int .i64 n, u64v u] w fun e w' => ∃ p q r, e = .returned (.func (.func 87) #[] #[ptrV p, ptrV q, ptrV r]) ∧ w'.heap[p]? = some (.cells (txr x) 56 (0, 0)) ∧ w'.heap[q]? = some (.cells #[.int .i64 n] 3 (0, 0)) ∧ w'.heap[r]? = some (.cells #[u64v u] 25 (0, 0)) ∧ w.heap.size ≤ p ∧ w.heap.size ≤ q ∧ w.heap.size ≤ r ∧ Mod (fun _ => False) w w' := by
  have hmf := hmf
  go_enter Try.func73, Try.ntmps73
  go_upto_region 0 with fail
  refine wp_pass0 (C := fun _ _ _ => False) (κ := fun i => [3, 3, 3, 0].getD i 0) [0, 1, 2, 3] (by kernel_rfl) (by kernel_rfl) (fun _ _ d _ _ h => by cases d <;> first | exact h | exact absurd h (hP _ _ _)) ?_
  (refine TD.box (v := ?v1) (by simp only [zA, zB, zC]; rfl) rfl ?hw1 rfl rfl ?hx1 (fun p3 hp3 => ?hn1); (case hw1 => rfl); (case hx1 => (simp only [Act.eval, zD, zA, zB, zC, zE]; (try rfl))); (try simp only [Act.put, zF, zG, zH]))
  (refine TD.box (v := ?v2) (by simp only [zA, zB, zC]; rfl) rfl ?hw2 rfl rfl ?hx2 (fun p4 hp4 => ?hn2); (case hw2 => rfl); (case hx2 => (simp only [Act.eval, zD, zA, zB, zC, zE]; (try rfl))); (try simp only [Act.put, zF, zG, zH]))
  obtain ⟨ne_p4_p3, hp4⟩ := Bx.set_none hp4
  (refine TD.box (v := ?v3) (by simp only [zA, zB, zC]; rfl) rfl ?hw3 rfl rfl ?hx3 (fun p5 hp5 => ?hn3); (case hw3 => rfl); (case hx3 => (simp only [Act.eval, zD, zA, zB, zC, zE]; (try rfl))); (try simp only [Act.put, zF, zG, zH]))
  obtain ⟨ne_p5_p4, hp5⟩ := Bx.set_none hp5
  obtain ⟨ne_p5_p3, hp5⟩ := Bx.set_none hp5
  (refine TD.val0 (v := ?v4) (by simp only [zA, zB, zC]; rfl) rfl ?hw4 (fun w1 => ?hy4) ?hn4; (case hw4 => rfl); (case hy4 => (go_simp; (try with_reducible rfl))); (try simp only [Act.put, zF, zG, zH]))
  refine TD.nil (fun w1 hr => ?_)
  have kp3 := hr.box p3 _ (by first | exact Bx.set_same _ _ _ | (simp only [Bx.set_ne _ (Ne.symm ne_p4_p3), Bx.set_ne _ (Ne.symm ne_p5_p3), Bx.set_ne _ (Ne.symm ne_p5_p4), Bx.set_ne _ ne_p4_p3, Bx.set_ne _ ne_p5_p3, Bx.set_ne _ ne_p5_p4, Bx.set_same]; rfl)); dsimp only [Value.cells] at kp3; obtain ⟨gp3, kp3⟩ := kp3
  have kp4 := hr.box p4 _ (by first | exact Bx.set_same _ _ _ | (simp only [Bx.set_ne _ (Ne.symm ne_p4_p3), Bx.set_ne _ (Ne.symm ne_p5_p3), Bx.set_ne _ (Ne.symm ne_p5_p4), Bx.set_ne _ ne_p4_p3, Bx.set_ne _ ne_p5_p3, Bx.set_ne _ ne_p5_p4, Bx.set_same]; rfl)); dsimp only [Value.cells] at kp4; obtain ⟨gp4, kp4⟩ := kp4
  have kp5 := hr.box p5 _ (by first | exact Bx.set_same _ _ _ | (simp only [Bx.set_ne _ (Ne.symm ne_p4_p3), Bx.set_ne _ (Ne.symm ne_p5_p3), Bx.set_ne _ (Ne.symm ne_p5_p4), Bx.set_ne _ ne_p4_p3, Bx.set_ne _ ne_p5_p3, Bx.set_ne _ ne_p5_p4, Bx.set_same]; rfl)); dsimp only [Value.cells] at kp5; obtain ⟨gp5, kp5⟩ := kp5
  have m1 := hr.mod
  clear hr
  go_wp2_with fail
  go_ret
  exact ⟨_, _, _, rfl, kp3, kp4, kp5, gp3, gp4, gp5, m1⟩
def KeepR (R : Nat → Prop) (W W' : World) : Prop := ∀ i, R i → W'.heap[i]? = W.heap[i]?
theorem keepR_t {R : Nat → Prop} {A B C : World} (h : KeepR R A B) (k : KeepR R B C) : KeepR R A C := fun i hi => (k i hi).trans (h i hi)
def coL (s n d u : UInt64) : List UInt64 := [tim s 720, tim n 300, d / 4, u]
theorem grown_mod {W W' : World} (hm : Mod (fun _ => False) W W') : W.grownBy W' none := ⟨hm.os, hm.tape, hm.output, hm.size, fun k hk _ => hm.block k hk (fun h => h)⟩
theorem wrapi {n : Nat} (h : n < 18446744073709551616) : IntKind.u64.wrap (n : Int) = ((UInt64.ofNat n).toNat : Int) := by
  rw [Mul64.wrapN n h, UInt64.toNat_ofNat', Nat.mod_eq_of_lt h]
theorem add_len (d : UInt64) {n : Nat} (h : n < 18446744073709551616) : Value.int .u64 (IntKind.u64.wrap ((d.toNat : Int) + (n : Int) % 18446744073709551616)) = u64v (d + UInt64.ofNat n) := by
  unfold u64v
  rw [UInt64.toNat_add, UInt64.toNat_ofNat', Nat.mod_eq_of_lt h, IntKind.wrap_u64]
  congr 1
  omega
theorem times720_c (a : UInt64) (w : World) : Calls Try.prog 88 #[u64v a, .int .u64 720, .int .u64 1, .bool false] w fun e w' => e = .returned (u64v (tim a 720)) ∧ Mod (fun _ => False) w w' := times1_c a 720 w
theorem times300_c (a : UInt64) (w : World) : Calls Try.prog 88 #[u64v a, .int .u64 300, .int .u64 1, .bool false] w fun e w' => e = .returned (u64v (tim a 300)) ∧ Mod (fun _ => False) w w' := times1_c a 300 w
set_option maxRecDepth 100000 in
set_option maxHeartbeats 4000000 in
theorem parts1_in (n l p q r : Nat) (x : RdR) (wn : Nat) (u : UInt64) (hwr : wn ≤ 1000000) (J Jx : List UInt64 → World → Prop) (W : World) (hJ : AbidesFrom W.heap.size J)
    (hY : ∀ pre z W1, J pre W1 → pre.length < 4 → YieldAt Fence.wide n Try.prog l #[u64v z] W1 fun e W' =>
      (e = .returned (.bool true) ∧ J (pre ++ [z]) W' ∧ KeepR (fun i => i = p ∨ i = q ∨ i = r) W1 W') ∨ (e = .returned (.bool false) ∧ Jx (pre ++ [z]) W'))
    (kp : W.heap[p]? = some (.cells (txr x) 56 (0, 0))) (kq : W.heap[q]? = some (.cells #[.int .i64 (wn : Int)] 3 (0, 0))) (kr : W.heap[r]? = some (.cells #[u64v u] 25 (0, 0)))
    (hins : SlAt inr 3 W x.ins.a x.ins.l) (b1 : x.ins.l.length ≤ 140737488355328) (b2 : x.sg.l.length ≤ 140737488355328) (b3 : ∀ y ∈ x.ins.l, y.d.l.length ≤ 140737488355328) (h0 : J [] W) :
    CallsIn Fence.wide (n + 1) Try.prog 87 #[.func (.yield l) #[] #[], ptrV p, ptrV q, ptrV r] W fun e W' => (∃ v, e = .returned v) ∧ (J (coL (UInt64.ofNat x.sg.l.length) (UInt64.ofNat wn) (dSum x.ins.l) u) W' ∨ ∃ pre, Jx pre W') := by
  refine callsIn_of_wp Try.func87 rfl trivial ?_ rfl
  simp only [Try.ntmps87, List.size_toArray, List.length_cons, List.length_nil, Nat.reduceAdd, Nat.reduceSub, Array.replicate_succ, Array.replicate_zero, List.push_toArray, List.append_toArray, List.nil_append, List.cons_append]
  have HI := Lib.hid hins
  have HJ := Lib.hid hJ
  have HY := Lib.hid hY
  have HB := Lib.hid b3
  have H0 := Lib.hid h0
  clear hins hJ hY b3 h0
  refine wpIn_wide.2 ?_
  go_wp2_with fail
  go_loopw [5, 12] (fun s5 s12 ws => ∃ i : Nat, i ≤ x.ins.l.length ∧ s12 = .int .i64 (i : Int) ∧ s5 = u64v (dSum (x.ins.l.take i)) ∧ Hid (J [] ws) ∧ Mod (fun _ => False) W ws) (fun _ s12 _ => x.ins.l.length - (intOf s12).toNat)
  case atStart => exact ⟨0, Nat.zero_le _, rfl, rfl, H0, Mod.refl _ _⟩
  case round =>
    obtain ⟨i, hi, rfl, rfl, HJi, hm⟩ := hrel
    replace kp := hm.at0 kp
    replace kq := hm.at0 kq
    replace kr := hm.at0 kr
    by_cases hlt : i < x.ins.l.length
    · have hd := decide_eq_true hlt
      obtain ⟨y, hy⟩ : ∃ y, x.ins.l[i]? = some y := ⟨_, List.getElem?_eq_getElem hlt⟩
      obtain ⟨g, o, C, U, fr, ha, kg, he, hle⟩ := (HI.out.mod0 hm).block hy
      have hs := dSum_snoc hy
      have hyb := HB.out y (List.mem_of_getElem? hy)
      have HS := Lib.hid hs
      clear hy hs
      have hw : IntKind.u64.wrap (y.d.l.length : Int) = ((UInt64.ofNat y.d.l.length).toNat : Int) := wrapi (by omega)
      have hle3 : o + i * 3 + 3 ≤ C.size := hle
      go_upto_region 3 with fail
      have Lkp := lt_size kp
      have Lkg := lt_size kg
      refine wp_pass0 (C := fun _ _ _ => False) (κ := fun i => [0, 1, 3, 4].getD i 0) [0, 1, 2, 3] (by kernel_rfl) (by kernel_rfl) (fun _ _ d _ _ h => by cases d <;> first | exact h | exact absurd h (hP _ _ _)) ?_
      (refine TD.val0 (v := ?v5) (by simp only [zA, zB, zC]; rfl) rfl ?hw5 (fun w1 => ?hy5) ?hn5; (case hw5 => rfl); (case hy5 => (go_simp; (try with_reducible rfl))); (try simp only [Act.put, zF, zG, zH]))
      (refine TD.load (v := ?v6) (p := ?p6) (Mod.refl _ _) (by simp only [zA, zB, zC]; rfl) rfl ?hw6 rfl ?hx6 (fun wq hSq => ?hy6) ?hn6; (case hw6 => rfl); (case hx6 => (simp only [Act.eval, zD, zA, zB, zC, zE]; (try rfl))); (case hy6 => (have kpq := hSq.at kp (fun h => h); have kgq := hSq.at kg (fun h => h); go_simp; (try with_reducible rfl))); (try simp only [Act.put, zF, zG, zH]))
      (refine TD.allocB (by simp only [zA, zB, zC]; rfl) rfl ?hw7 rfl rfl alIn (fun p7 hp7 => ?hn7); (case hw7 => rfl); (try simp only [Act.put, zF, zG, zH]))
      (refine TD.storeB (d := ?d8) (T := ?T8) (y := ?y8) (p := ?p8) (b := ?b8) (v := ?v8) (by simp only [zA, zB, zC]; rfl) rfl ?hw8 ?hd8 ?hop8 ?hev8 ?hx8 ?hb8 ?htag8 (fun w1 hb1 => ?hy8) ?hn8; (case hw8 => rfl); (case hd8 => rfl); (case hop8 => rfl); (case hev8 => (simp only [Act.eval, zD, zA, zB, zC, zE]; (try rfl))); (case hx8 => (simp only [Act.eval, zD, zA, zB, zC, zE]; (try rfl))); (case hb8 => first | exact Bx.set_same _ _ _ | (simp only [Bx.set_same]; rfl)); (case hy8 => (go_simp; (try first | with_reducible rfl | (rw [setCell_blk hb1]; rfl)))); (try simp only [Act.put, zF, zG, zH]))
      refine TD.nil (fun w3 hr => ?_)
      replace kp := hr.mod.at kp (fun h => h)
      replace kg := hr.mod.at kg (fun h => h)
      have kp7 := hr.box p7 _ (by first | exact Bx.set_same _ _ _ | (simp only [Bx.set_same]; rfl)); dsimp only [Value.cells] at kp7; obtain ⟨gp7, kp7⟩ := kp7
      have hm3 := hm.then0 hr.mod
      have HJ3 := Lib.hid (HJ.out [] _ _ none HJi.out (grown_mod hr.mod) (fun r e => by cases e))
      clear hr hle hle3 he
      go_wp2_with fail
      go_roundw
      case rel => exact ⟨i + 1, by omega, by go_num, by rw [HS.out]; exact add_len _ (by omega), HJ3, hm3⟩
      case measure => simp [intOf]; omega
    · have hd := decide_eq_false hlt
      obtain rfl : i = x.ins.l.length := by omega
      rw [List.take_length]
      have HCO : Hid (∃ su wu d, UInt64.ofNat x.sg.l.length = su ∧ UInt64.ofNat wn = wu ∧ dSum x.ins.l = d ∧ coL (UInt64.ofNat x.sg.l.length) (UInt64.ofNat wn) (dSum x.ins.l) u = coL su wu d u) := Lib.hid ⟨_, _, _, rfl, rfl, rfl, rfl⟩
      obtain ⟨su, wu, d, hsu, hwu, hdd, hco⟩ := HCO.out
      have HC := Lib.hid hco
      rw [hdd]
      clear hco HCO hdd
      have hws : IntKind.u64.wrap (x.sg.l.length : Int) = ((UInt64.ofNat x.sg.l.length).toNat : Int) := wrapi (by omega)
      have hww : IntKind.u64.wrap (wn : Int) = ((UInt64.ofNat wn).toNat : Int) := wrapi (by omega)
      rw [hsu] at hws
      rw [hwu] at hww
      clear hsu hwu
      go_upto_region 6 with fail
      refine (wpIn_wide (n := n + 1)).1 ?_
      have hd4 : ((d / 4).toNat : Int) = IntKind.u64.wrap ((d.toNat : Int) / 4) := by
        have := d.toNat_lt
        rw [UInt64.toNat_div, IntKind.wrap_u64, show (4 : UInt64).toNat = 4 from rfl]
        omega
      have HD4 := Lib.hid hd4
      clear hd4
      gi_wp2
      refine ⟨trivial, callsIn_wide.2 ?_⟩
      refine (times720_c su _).mono ?_
      rintro e w2 ⟨rfl, m2⟩
      replace kp := m2.at0 kp
      replace kq := m2.at0 kq
      replace kr := m2.at0 kr
      have HJ2 := HJ.out [] _ _ none HJi.out (grown_mod m2) (fun r e => by cases e)
      clear m2
      obtain ⟨fn1, tmps1, assign1, body1, hy1, hR1⟩ := HY.out [] (tim su 720) w2 HJ2 (by simp)
      gi_wp2
      refine hR1.mono ?_
      rintro e w3 (⟨rfl, hJ3, hk3⟩ | ⟨rfl, hx3⟩)
      · replace kp := (hk3 p (.inl rfl)).trans kp
        replace kq := (hk3 q (.inr (.inl rfl))).trans kq
        replace kr := (hk3 r (.inr (.inr rfl))).trans kr
        clear hk3 hy1 hR1
        gi_wp2
        go_upto_region 7 with fail
        refine (wpIn_wide (n := n + 1)).1 ?_
        have hmx : max 0 (wn : Int) = (wn : Int) := by omega
        gi_wp2
        refine ⟨trivial, callsIn_wide.2 ?_⟩
        refine (times300_c wu _).mono ?_
        rintro e w4 ⟨rfl, m4⟩
        replace kr := m4.at0 kr
        have HJ4 := HJ.out _ _ _ none hJ3 (grown_mod m4) (fun r e => by cases e)
        clear m4
        obtain ⟨fn2, tmps2, assign2, body2, hy2, hR2⟩ := HY.out [tim su 720] (tim wu 300) w4 HJ4 (by simp)
        gi_wp2
        refine hR2.mono ?_
        rintro e w5 (⟨rfl, hJ5, hk5⟩ | ⟨rfl, hx5⟩)
        · replace kr := (hk5 r (.inr (.inr rfl))).trans kr
          clear hk5 hy2 hR2
          gi_wp2
          go_upto_region 8 with fail
          refine (wpIn_wide (n := n + 1)).1 ?_
          obtain ⟨fn3, tmps3, assign3, body3, hy3, hR3⟩ := HY.out [tim su 720, tim wu 300] (d / 4) w5 hJ5 (by simp)
          simp only [u64v, HD4.out] at hy3
          gi_wp2
          refine hR3.mono ?_
          rintro e w6 (⟨rfl, hJ6, hk6⟩ | ⟨rfl, hx6⟩)
          · replace kr := (hk6 r (.inr (.inr rfl))).trans kr
            clear hk6 hy3 hR3
            gi_wp2
            go_upto_region 9 with fail
            refine (wpIn_wide (n := n + 1)).1 ?_
            obtain ⟨fn4, tmps4, assign4, body4, hy4, hR4⟩ := HY.out [tim su 720, tim wu 300, d / 4] u w6 hJ6 (by simp)
            gi_wp2
            refine hR4.mono ?_
            rintro e w7 (⟨rfl, hJ7, hk7⟩ | ⟨rfl, hx7⟩)
            · gi_wp2
              go_wp2_with fail
              go_end0
              exact ⟨⟨_, rfl⟩, .inl (by rw [HC.out]; exact hJ7)⟩
            · gi_wp2
              go_wp2_with fail
              go_end0
              exact ⟨⟨_, rfl⟩, .inr ⟨_, hx7⟩⟩
          · gi_wp2
            go_wp2_with fail
            go_end0
            exact ⟨⟨_, rfl⟩, .inr ⟨_, hx6⟩⟩
        · gi_wp2
          go_wp2_with fail
          refine bodyPost_ret (results_none rfl _ _ _) rfl ?_
          exact ⟨⟨_, rfl⟩, .inr ⟨_, hx5⟩⟩
      · gi_wp2
        go_wp2_with fail
        refine bodyPost_ret (results_none rfl _ _ _) rfl ?_
        exact ⟨⟨_, rfl⟩, .inr ⟨_, hx3⟩⟩
theorem parts_stops (n p q r : Nat) (x : RdR) (wn : Nat) (u : UInt64) (hwr : wn ≤ 1000000) (w : World) (kp : w.heap[p]? = some (.cells (txr x) 56 (0, 0))) (kq : w.heap[q]? = some (.cells #[.int .i64 (wn : Int)] 3 (0, 0))) (kr : w.heap[r]? = some (.cells #[u64v u] 25 (0, 0)))
    (hins : SlAt inr 3 w x.ins.a x.ins.l) (b1 : x.ins.l.length ≤ 140737488355328) (b2 : x.sg.l.length ≤ 140737488355328) (b3 : ∀ y ∈ x.ins.l, y.d.l.length ≤ 140737488355328) :
    SeqStopsK Fence.wide (n + 1) Try.prog 87 #[ptrV p, ptrV q, ptrV r] (fun v : UInt64 => #[u64v v]) (KeepR (fun i => i = p ∨ i = q ∨ i = r)) (fun xs => xs = coL (UInt64.ofNat x.sg.l.length) (UInt64.ofNat wn) (dSum x.ins.l) u) (fun _ => True) 4 w := fun l J Jx W hW hJ hJx hY h0 => by
  have hB : ∀ {i : Nat} {o : Obj}, w.heap[i]? = some o → W.heap[i]? = some o := fun {i o} h => (hW.block i (lt_size h)).trans h
  have hins' : SlAt inr 3 W x.ins.a x.ins.l := by
    rcases hins with h | ⟨b, o, C, U, fr, h1, h2, h3⟩
    · exact .inl h
    · exact .inr ⟨b, o, C, U, fr, h1, hB h2, h3⟩
  refine (parts1_in n l p q r x wn u hwr J Jx W hJ hY (hB kp) (hB kq) (hB kr) hins' b1 b2 b3 h0).mono ?_
  rintro e W' ⟨he, hj | ⟨pre, hj⟩⟩
  · exact ⟨he, .inl ⟨_, rfl, hj⟩⟩
  · exact ⟨he, .inr ⟨pre, trivial, hj⟩⟩
def noPanic (Q : Exit → Act → World → Prop) : Exit → Act → World → Prop := fun e a w => (∀ c, e ≠ .panic c) ∧ e ≠ .outgrown ∧ Q e a w
def coF (s n d u : UInt64) : UInt64 := (coL s n d u).foldl sat 0
set_option maxRecDepth 100000 in
set_option maxHeartbeats 4000000 in
theorem of_c (x : RdR) (wn : Nat) (u : UInt64) (hwr : wn ≤ 1000000) (w : World) (hins : SlAt inr 3 w x.ins.a x.ins.l) (b1 : x.ins.l.length ≤ 140737488355328) (b2 : x.sg.l.length ≤ 140737488355328) (b3 : ∀ y ∈ x.ins.l, y.d.l.length ≤ 140737488355328) : Calls Try.prog 40 #[.agg (txr x), .int .i64 (wn : Int), u64v u] w fun e w' => e = .returned (u64v (coF (UInt64.ofNat x.sg.l.length) (UInt64.ofNat wn) (dSum x.ins.l) u)) ∧ Mod (fun _ => False) w w' := by
  have HI := Lib.hid (And.intro hins b3)
  clear hins b3
  refine (callsIn_wide (n := 4)).1 ?_
  refine callsIn_of_wp_marks Try.func40 rfl trivial ?_ rfl
  simp only [Try.ntmps40, List.size_toArray, List.length_cons, List.length_nil, Nat.reduceAdd, Nat.reduceSub, Array.replicate_succ, Array.replicate_zero, List.push_toArray, List.append_toArray, List.nil_append, List.cons_append]
  refine wpIn_wide.2 ?_
  refine wp_mono (Q := noPanic _) ?_ (fun e a w h => h.2.2)
  generalize hQ0 : bodyPostM Fence.wide 4 Try.prog _ _ = Q0
  have HQ0 := Lib.hid hQ0
  clear hQ0
  have hP : ∀ c a w, ¬ noPanic Q0 (.panic c) a w := fun c a w h => h.1 c rfl
  have hLo : ¬ LetsOut (noPanic Q0) := fun ⟨a, w, h⟩ => h.2.1 rfl
  generalize hQ1 : noPanic Q0 = Q1 at *
  have HQ1 := Lib.hid hQ1
  clear hQ1
  go_upto_region 0 with fail
  refine wp_pass0 (C := fun _ _ _ => False) (κ := fun i => [3, 0].getD i 0) [0, 1] (by kernel_rfl) (by kernel_rfl) (fun _ _ d _ _ h => by cases d <;> first | exact h | exact absurd h (hP _ _ _)) ?_
  (refine TD.box (v := ?v9) (by simp only [zA, zB, zC]; rfl) rfl ?hw9 rfl rfl ?hx9 (fun p3 hp3 => ?hn9); (case hw9 => rfl); (case hx9 => (simp only [Act.eval, zD, zA, zB, zC, zE]; (try rfl))); (try simp only [Act.put, zF, zG, zH]))
  (refine TD.val0 (v := ?v10) (by simp only [zA, zB, zC]; rfl) rfl ?hw10 (fun w1 => ?hy10) ?hn10; (case hw10 => rfl); (case hy10 => (go_simp; (try with_reducible rfl))); (try simp only [Act.put, zF, zG, zH]))
  refine TD.nil (fun w1 hr => ?_)
  have kp3 := hr.box p3 _ (by first | exact Bx.set_same _ _ _ | (simp only [Bx.set_same]; rfl)); dsimp only [Value.cells] at kp3; obtain ⟨gp3, kp3⟩ := kp3
  have m1 := hr.mod
  clear hr
  go_upto_region 1 with fail
  have Lkp3 := lt_size kp3
  refine wp_pass0 (C := fun _ _ _ => False) (κ := fun i => [3, 4].getD i 0) [0, 1] (by kernel_rfl) (by kernel_rfl) (fun _ _ d _ _ h => by cases d <;> first | exact h | exact absurd h (hP _ _ _)) ?_
  (refine TD.allocB (by simp only [zA, zB, zC]; rfl) rfl ?hw11 rfl rfl alU64 (fun p7 hp7 => ?hn11); (case hw11 => rfl); (try simp only [Act.put, zF, zG, zH]))
  (refine TD.storeB (d := ?d12) (T := ?T12) (y := ?y12) (p := ?p12) (b := ?b12) (v := ?v12) (by simp only [zA, zB, zC]; rfl) rfl ?hw12 ?hd12 ?hop12 ?hev12 ?hx12 ?hb12 ?htag12 (fun w1 hb1 => ?hy12) ?hn12; (case hw12 => rfl); (case hd12 => rfl); (case hop12 => rfl); (case hev12 => (simp only [Act.eval, zD, zA, zB, zC, zE]; (try rfl))); (case hx12 => (simp only [Act.eval, zD, zA, zB, zC, zE]; (try rfl))); (case hb12 => first | exact Bx.set_same _ _ _ | (simp only [Bx.set_same]; rfl)); (case hy12 => (go_simp; (try first | with_reducible rfl | (rw [setCell_blk hb1]; rfl)))); (try simp only [Act.put, zF, zG, zH]))
  refine TD.nil (fun w2 hr => ?_)
  replace kp3 := hr.mod.at kp3 (fun h => h)
  have kp7 := hr.box p7 _ (by first | exact Bx.set_same _ _ _ | (simp only [Bx.set_same]; rfl)); dsimp only [Value.cells] at kp7; obtain ⟨gp7, kp7⟩ := kp7
  have m2 := m1.then0 hr.mod
  have HLT := Lib.hid (And.intro (lt_size kp3) (And.intro (lt_size kp7) m1.size))
  clear hr
  go_upto_region 2 with fail
  go_wp2_with fail
  go_at_call 73
  refine (parts_c x _ u _).mono ?_
  rintro e w3 ⟨p, q, r, rfl, kp, kq, kr, hp, hq, hr, m3⟩
  replace kp7 := m3.at0 kp7
  go_wp2_with fail
  have m3w := m2.then0 m3
  have HM3 := Lib.hid m3w
  have HLQ := Lib.hid (And.intro (lt_size kp) (And.intro (lt_size kq) (lt_size kr)))
  have hins3 : SlAt inr 3 w3 x.ins.a x.ins.l := HI.out.1.mod0 m3w
  have h7 : p7 ≠ p ∧ p7 ≠ q ∧ p7 ≠ r := by
    have h := HLT.out
    exact ⟨by omega, by omega, by omega⟩
  have HK := Lib.hid (And.intro kp7 (And.intro kp (And.intro kq (And.intro kr hins3))))
  clear kp7 kp kq kr hins3 m3w m3 kp3
  have hbs : ∀ (a b : UInt64) w, (Instr.buildSlice 172 2 #[(0, u64v a), (1, u64v b)]).run Try.prog w = .ok (.slice (some ⟨w.heap.size, 0, none⟩) 2 2) (w.alloc (.cells #[u64v a, u64v b] 25)) := fun a b w => by kernel_rfl
  refine wpIn_wide.1 (wpIn_rangeFunc_ownG (n := 3) rfl (by omega) (gf := 87) (lb := #[ptrV p, ptrV q, ptrV r]) rfl trivial (enters_of Try.func87 (by kernel_rfl) rfl)
    (parts_stops 1 p q r x wn u hwr w3 HK.out.2.1 HK.out.2.2.1 HK.out.2.2.2.1 HK.out.2.2.2.2 b1 b2 HI.out.2) keepR_t (fun W l o o' hl hk _ _ i hi => World.putObj_heap_other (by have := HLQ.out; rcases hi with e | e | e <;> omega)) (Below.refl _ _) (fun _ => rfl)
    (fun pre W => W.heap[p7]? = some (.cells #[u64v (pre.foldl sat 0)] 25 (0, 0)) ∧ Mod (fun i => i = p7 ∨ w3.heap.size ≤ i) w3 W)
    (fun _ _ _ => False) ?own (fun _ _ _ _ _ hs _ _ => hs) ⟨HK.out.1, Mod.refl _ _⟩
    (fun z => { tmps := #[.agg (txr x), .int .i64 (wn : Int), u64v u, ptrV p3, undef, undef, .int .u64 0, ptrV p7, u64v z, .agg (txr x), .int .i64 (wn : Int), u64v u, .func (.func 87) #[] #[ptrV p, ptrV q, ptrV r], u64v z, undef, undef, undef, undef, undef], defers := [] }) ?assign ?body ?done ?stop)
  case own =>
    rintro pre W W' row ⟨h1, h2⟩ hg hr
    have hlt : p7 < w3.heap.size := lt_size HK.out.1
    refine ⟨(hg.block p7 (lt_size h1) (fun e => by have := (hr p7 e.symm).1; omega)).trans h1, h2.then (⟨hg.os, hg.tape, hg.output, hg.size, fun k hk hne => hg.block k hk (fun e => hne (.inr (hr k e.symm).1))⟩ : Mod (fun i => i = p7 ∨ w3.heap.size ≤ i) W W') (fun i hi e => e)⟩
  case assign =>
    intro l z W K hK
    gi_wp2
    exact hK
  case body =>
    rintro l pre z W ⟨h1, h2⟩ hlt
    have k7 := h1
    have H2 := Lib.hid h2
    have K7 : Hid (∃ cs, W.heap[p7]? = some (.cells cs 25 (0, 0))) := Lib.hid ⟨_, h1⟩
    clear h1 h2
    gi_wp2
    refine ⟨trivial, CallsIn.inRound l (callsIn_wide.2 ?_)⟩
    refine (wsum_c W.heap.size (pre.foldl sat 0) z _ (heap_alloc_new _ _)).mono ?_
    rintro e W2 ⟨rfl, m2⟩
    have mm := ((Mod.refl (fun _ => False) W).alloc (.cells #[u64v (pre.foldl sat 0), u64v z] 25)).trans m2
    replace k7 := mm.at0 k7
    clear m2
    gi_wp2
    rw [setCell_blk k7]
    have k8 := heap_setBlock W2 (.cells (#[u64v (pre.foldl sat 0)].setIfInBounds 0 (.int .u64 ((sat (pre.foldl sat 0) z).toNat : Int))) 25 (0, 0)) (lt_size k7)
    have m8 := (mm.mono (T := fun i => i = p7) (fun _ _ h => h.elim)).trans (mod_set W2 p7 (.cells (#[u64v (pre.foldl sat 0)].setIfInBounds 0 (.int .u64 ((sat (pre.foldl sat 0) z).toNat : Int))) 25 (0, 0)))
    have K0 : ∃ cs, W.heap[p7]? = some (.cells cs 25 (0, 0)) := K7.out
    obtain ⟨cs0, K0⟩ := K0
    refine ⟨(⟨m8.size, fun k o hk ho => m8.at_ne hk (fun e => by subst e; rw [K0] at hk; cases hk; cases ho)⟩ : KeepsOthers W _).from _, fun i hi => ?_, ?_, H2.out.then m8 (fun i _ e => .inl e)⟩
    · refine m8.block i ?_ ?_
      · have h1 := HLQ.out
        have h2 := H2.out.size
        rcases hi with e | e | e <;> omega
      · rcases hi with e | e | e <;> omega
    · rw [List.foldl_append]
      exact k8
  case done =>
    rintro D xs W hD rfl ⟨h1, h2⟩ hK
    have H2 := Lib.hid h2
    clear h2
    go_wp2_with fail
    rw [← HQ1.out]
    refine ⟨fun c h => (by cases h), fun h => (by cases h), ?_⟩
    rw [← HQ0.out]
    refine ⟨by simp, .inl ⟨_, _, rfl, run_takeDeferred hK, ?_⟩⟩
    refine ⟨_, results_tmp rfl _ _ _, rfl, ?_⟩
    have hw3 := HM3.out.size
    have hg7 := HLT.out.2.2
    have mm := HM3.out.then H2.out (fun i hi e => by rcases e with e | e <;> omega)
    exact ⟨mm.os, mm.tape, mm.output, by rw [World.putObj_size]; exact mm.size, fun k hk hne => (World.putObj_heap_other (by omega)).trans (mm.block k hk hne)⟩
  case stop =>
    rintro D c pre W hD _ h _
    exact h.elim
end Go.Proofs.Ytofpnmoeimjnnaa
namespace Go.Proofs.Ytofpnmoeimjnnaa
open Go.RowKit
open Go.ChangeMaps (setBlock)
set_option linter.unusedSimpArgs false
set_option linter.unusedVariables false
attribute [local go_sem ↓] wlKey ldKey stKey wlAcct ldAcct stAcct wlHold ldHold stHold wlHash ldHash stHash wlSig ldSig stSig wlLim ldLim stLim wlRdy ldRdy stRdy wlOut ldOut stOut wlTd ldTd stTd wlTx ldTx stTx eqKey1
attribute [local go_sem] eqMap neMap av_size av_all av_one hd_size hd_key hd_acct hd_all hd_one zKey_size zAcct_size zHold_size zHash_size zSg_size zLim_size zRdy_size zOut_size zTried_size zTx_size cell_blk frozen_blk kc_ext one_int one_bool one_ptr one_slice one_map kc_one kc_one0 kc_size sgc_size sgc_ext sgc_one0 sgc_one' rdr_size rdr_all rdr_one rdr_tx rdr_rec rdr0 rdr1 rdr6 rdr39 rdr40 rdr41 rdr0' rdr1' rdr6' rdr39' rdr40' rdr41' ocr_size ocr_all ocr_one ocr2 ocr3 ocr4 ocr5 ocr2' ocr3' ocr4' ocr5' tdr_size tdr_all tdr_one tdr_r tdr_o tdr_tx tdr_rec tdr0 tdr1 tdr41 tdr50 tdr51 tdr52 tdr53 tdr0' tdr1' tdr41' tdr50' tdr51' tdr52' tdr53' txr_size txr_all txr_one txr0 txr38 txr39 txr0' txr38' txr39' Value.cells
attribute [local go_sem ↓] wlRole ldRole stRole
attribute [local go_sem] rc_size rc_key rc_all rc_s rc_w rc_s' rc_w' rc_one zRole_size
def wrL (l : List Role) : List Key := (l.filter (·.w)).map (·.k)
theorem wrL_snoc {l : List Role} {i : Nat} {x : Role} (hx : l[i]? = some x) : wrL (l.take (i + 1)) = wrL (l.take i) ++ (if x.w then [x.k] else []) := by
  rw [List.take_add_one, hx]
  cases h : x.w <;> simp [wrL, h]
theorem wrL_len (l : List Role) : (wrL l).length ≤ l.length := by
  unfold wrL
  rw [List.length_map]
  exact List.length_filter_le _ _
theorem role_at {w : World} {a : Option Addr} {l : List Role} (h : SlAt rcr 34 w a l) {i : Nat} {x : Role} (hx : l[i]? = some x) : ∃ g o C U fr, a = some ⟨g, o, none⟩ ∧ w.heap[g]? = some (.cells C U fr) ∧ C.extract (o + i * 34) (o + i * 34 + 34) = rc x.k x.s x.w ∧ o + i * 34 + 34 ≤ C.size := h.block hx
theorem bsKey (k : Key) (w : World) : (Instr.buildSlice 48 1 #[(0, .agg (kc k))]).run Try.prog w = .ok (.slice (some ⟨w.heap.size, 0, none⟩) 1 1) (w.alloc (.cells (kc k) 68)) := by
  obtain ⟨i0, hi, hz0, hz1, hz2⟩ := info_parts (show (Try.prog.info? 68).map (fun i => (i.zero, i.size, i.bytes)) = some (some (.agg zKey), 32, 32) by kernel_rfl)
  refine run_buildSlice w _ _ 1 _ _ i0 _ Try.underlying48 hi hz0 (by rw [hz1]; omega) (by rw [hz1]; omega) ?_
  rw [hz1]
  show Instr.fill _ _ [(0, _)] = _
  rw [fill_cons (off := 0) (n := 32) rfl (by simp [Value.cells]) (by simp [Value.cells, zKey_size, size_madeCells])]
  show some (wr _ 0 (kc k).toList) = _
  rw [wr_whole (kc k) _ (by simp [Value.cells, zKey_size, size_madeCells])]
set_option maxRecDepth 20000 in
set_option maxHeartbeats 3200000 in
theorem written_c (a : Option Addr) (l : List Role) (c : Nat) (w : World) (hl : SlAt rcr 34 w a l) (hn : l.length ≤ 100000) : Calls Try.prog 10 #[.slice a l.length c] w fun e w' => ∃ v, e = .returned v ∧ NewS kc 32 68 w.heap.size w' v (wrL l) ∧ Mod (fun _ => False) w w' := by
  have HL := Lib.hid hl
  clear hl
  go_enter Try.func10, Try.ntmps10
  go_wp2_with fail
  go_loopw [2, 7] (fun s2 s7 ws => ∃ i : Nat, i ≤ l.length ∧ s7 = .int .i64 (i : Int) ∧ Hid (SlOwn kc 32 68 ws w.heap.size s2 (wrL (l.take i))) ∧ Mod (fun _ => False) w ws) (fun _ s7 _ => l.length - (intOf s7).toNat)
  case atStart => exact ⟨0, Nat.zero_le _, rfl, Lib.hid (SlOwn.nil _ _), Mod.refl _ _⟩
  case round =>
    obtain ⟨i, hi, rfl, HO, hm⟩ := hrel
    by_cases hlt : i < l.length
    · have hd := decide_eq_true hlt
      obtain ⟨x, hx⟩ : ∃ x, l[i]? = some x := ⟨_, List.getElem?_eq_getElem hlt⟩
      obtain ⟨g, o, C, U, fr, rfl, kg, he, hle⟩ := role_at (HL.out.mod0 hm) hx
      have hlen := wrL_len (l.take i)
      have hlen2 := List.length_take_le i l
      have HN : Hid ((wrL (l.take i)).length ≤ 100000) := Lib.hid (by omega)
      have HX := Lib.hid (wrL_snoc hx)
      clear hx hlen hlen2
      obtain ⟨xk, xs, xw⟩ := x
      dsimp only at he HX
      go_upto_region 3 with fail
      have Lkg := lt_size kg
      refine wp_pass0 (C := fun _ _ _ => False) (κ := fun i => [0, 1, 3, 4].getD i 0) [0, 1, 2, 3] (by kernel_rfl) (by kernel_rfl) (fun _ _ d _ _ h => by cases d <;> first | exact h | exact absurd h (hP _ _ _)) ?_
      (refine TD.val0 (v := ?v1) (by simp only [zA, zB, zC]; rfl) rfl ?hw1 (fun w1 => ?hy1) ?hn1; (case hw1 => rfl); (case hy1 => (go_simp; (try with_reducible rfl))); (try simp only [Act.put, zF, zG, zH]))
      (refine TD.load (v := ?v2) (p := ?p2) (Mod.refl _ _) (by simp only [zA, zB, zC]; rfl) rfl ?hw2 rfl ?hx2 (fun wq hSq => ?hy2) ?hn2; (case hw2 => rfl); (case hx2 => (simp only [Act.eval, zD, zA, zB, zC, zE]; (try rfl))); (case hy2 => (have kgq := hSq.at kg (fun h => h); go_simp; (try with_reducible rfl))); (try simp only [Act.put, zF, zG, zH]))
      (refine TD.allocB (by simp only [zA, zB, zC]; rfl) rfl ?hw3 rfl rfl alRole (fun p4 hp4 => ?hn3); (case hw3 => rfl); (try simp only [Act.put, zF, zG, zH]))
      (refine TD.storeB (d := ?d4) (T := ?T4) (y := ?y4) (p := ?p4) (b := ?b4) (v := ?v4) (by simp only [zA, zB, zC]; rfl) rfl ?hw4 ?hd4 ?hop4 ?hev4 ?hx4 ?hb4 ?htag4 (fun w1 hb1 => ?hy4) ?hn4; (case hw4 => rfl); (case hd4 => rfl); (case hop4 => rfl); (case hev4 => (simp only [Act.eval, zD, zA, zB, zC, zE]; (try rfl))); (case hx4 => (simp only [Act.eval, zD, zA, zB, zC, zE]; (try rfl))); (case hb4 => first | exact Bx.set_same _ _ _ | (simp only [Bx.set_same]; rfl)); (case hy4 => (go_simp; (try first | with_reducible rfl | (rw [setCell_blk hb1]; rfl)))); (try simp only [Act.put, zF, zG, zH]))
      refine TD.nil (fun w3 hr => ?_)
      replace kg := hr.mod.at kg (fun h => h)
      have kp4 := hr.box p4 _ (by first | exact Bx.set_same _ _ _ | (simp only [Bx.set_same]; rfl)); dsimp only [Value.cells] at kp4; obtain ⟨gp4, kp4⟩ := kp4
      have hm3 := hm.then0 hr.mod
      have HO3 := Lib.hid (HO.out.mod0 hr.mod)
      clear hr he hle kg
      cases xw with
      | false =>
        have HX2 : Hid (wrL (l.take (i + 1)) = wrL (l.take i)) := Lib.hid (by rw [HX.out]; simp)
        go_wp2_with fail
        go_roundw
        case rel => exact ⟨i + 1, by omega, by go_num, Lib.hid (by rw [HX2.out]; exact HO3.out), hm3⟩
        case measure => simp [intOf]; omega
      | true =>
        have HX2 : Hid (wrL (l.take (i + 1)) = wrL (l.take i) ++ [xk]) := Lib.hid (by rw [HX.out]; simp)
        have hbs := bsKey xk
        obtain ⟨a2, c2, rfl, _⟩ := HO3.out.at keysT
        generalize hll : (wrL (l.take i)).length = ll at *
        have HLL := Lib.hid hll
        clear hll
        go_upto_region 5 with fail
        have Lkp4 := lt_size kp4
        refine wp_pass0 (C := fun _ _ _ => False) (κ := fun i => [0, 0, 1, 3, 5, 0].getD i 0) [0, 1, 2, 3, 4, 5] (by kernel_rfl) (by kernel_rfl) (fun _ _ d _ _ h => by cases d <;> first | exact h | exact absurd h (hP _ _ _)) ?_
        (refine TD.val0 (v := ?v5) (by simp only [zA, zB, zC]; rfl) rfl ?hw5 (fun w1 => ?hy5) ?hn5; (case hw5 => rfl); (case hy5 => (go_simp; (try with_reducible rfl))); (try simp only [Act.put, zF, zG, zH]))
        (refine TD.val0 (v := ?v6) (by simp only [zA, zB, zC]; rfl) rfl ?hw6 (fun w1 => ?hy6) ?hn6; (case hw6 => rfl); (case hy6 => (go_simp; (try with_reducible rfl))); (try simp only [Act.put, zF, zG, zH]))
        (refine TD.load (v := ?v7) (p := ?p7) (Mod.refl _ _) (by simp only [zA, zB, zC]; rfl) rfl ?hw7 rfl ?hx7 (fun wq hSq => ?hy7) ?hn7; (case hw7 => rfl); (case hx7 => (simp only [Act.eval, zD, zA, zB, zC, zE]; (try rfl))); (case hy7 => (have kp4q := hSq.at kp4 (fun h => h); go_simp; (try with_reducible rfl))); (try simp only [Act.put, zF, zG, zH]))
        (refine TD.bslice (by simp only [zA, zB, zC]; rfl) rfl ?hw8 rfl rfl ?hx8 hbs (fun p16 hp16 => ?hn8); (case hw8 => rfl); (case hx8 => (simp only [List.map_toArray, List.map_cons, List.map_nil, Act.eval, zD, zA, zB, zC, zE]; (try rfl))); (try simp only [Act.put, zF, zG, zH]))
        refine TD.eff (by simp only [zA, zB, zC]; rfl) rfl (fun w4 hr => ?_)
        replace kp4 := hr.mod.at kp4 (fun h => h)
        have kp16 := hr.box p16 _ (by first | exact Bx.set_same _ _ _ | (simp only [Bx.set_same]; rfl)); dsimp only [Value.cells] at kp16; obtain ⟨gp16, kp16⟩ := kp16
        have m4 := hr.mod
        clear hr hbs
        obtain ⟨v5, w5, hap, hO5, m5, hn5⟩ := SlOwn.append keysT (q := [xk]) (c := 1) (HO3.out.mod0 m4) (SlAt.one kp16 xk rfl (kc_size _)) (by have := HN.out; have := HLL.out; simp only [List.length_singleton]; omega) (by decide) (Nat.le_trans hm3.size m4.size) 48
        have hlo := HO3.out.lt
        have hm5 : Mod (fun _ => False) w w5 := (hm3.then0 m4).then m5 (fun j hj e => by have := (hlo j e).1; omega)
        have HO5 := Lib.hid hO5
        clear hO5 m5 m4 hn5 hlo
        (refine eff_append (by simp only [zA, zB, zC]; rfl) ?hw10 rfl ?hx10 ?hz10 hap ?hn10; (case hw10 => rfl); (case hx10 => (simp only [Act.eval, zD, zA, zB, zC, zE]; (try rfl))); (case hz10 => (simp only [Act.eval, zD, zA, zB, zC, zE]; (try rfl))); (try simp only [Act.put, zF, zG, zH]))
        (refine TE.val0 (v := ?v11) (by simp only [zA, zB, zC]; rfl) ?hw11 (fun w1 => ?hy11) ?hn11; (case hw11 => rfl); (case hy11 => (go_simp; (try with_reducible rfl))); (try simp only [Act.put, zF, zG, zH]))
        refine TE.nil ?_
        go_wp2_with fail
        go_roundw
        case rel => exact ⟨i + 1, by omega, by go_num, Lib.hid (by rw [HX2.out]; exact HO5.out), hm5⟩
        case measure => simp [intOf]; omega
    · have hd := decide_eq_false hlt
      obtain rfl : i = l.length := by omega
      obtain ⟨a2, c2, v2, rfl, hcl, hN⟩ := HO.out.clip keysT
      rw [List.take_length] at hcl hN
      have HNN := Lib.hid hN
      have HCL := Lib.hid hcl
      clear hcl hN
      rw [List.take_length]
      go_wp2_with fail
      go_at_call 41
      refine (clipK_c v2 _ _ HCL.out).mono ?_
      rintro e w5 ⟨rfl, rfl⟩
      go_wp2_with fail
      go_ret
      exact ⟨_, rfl, HNN.out, hm⟩
set_option maxRecDepth 20000 in
theorem lcost_c (x : TdR) (w : World) (hro : SlAt rcr 34 w x.r.ro.a x.r.ro.l) (hrn : x.r.ro.l.length ≤ 300) (hins : SlAt inr 3 w x.r.ins.a x.r.ins.l) (b1 : x.r.ins.l.length ≤ 140737488355328) (b2 : x.r.sg.l.length ≤ 140737488355328) (b3 : ∀ y ∈ x.r.ins.l, y.d.l.length ≤ 140737488355328) : Calls Try.prog 9 #[.agg (tdr x)] w fun e w' => e = .returned (u64v (coF (UInt64.ofNat x.r.sg.l.length) (UInt64.ofNat (wrL x.r.ro.l).length) (dSum x.r.ins.l) x.o.un)) ∧ Mod (fun _ => False) w w' := by
  have HI := Lib.hid (And.intro hro (And.intro hins b3))
  clear hro hins b3
  go_enter Try.func9, Try.ntmps9
  go_upto_region 0 with fail
  refine wp_pass0 (C := fun _ _ _ => False) (κ := fun i => [3, 0].getD i 0) [0, 1] (by kernel_rfl) (by kernel_rfl) (fun _ _ d _ _ h => by cases d <;> first | exact h | exact absurd h (hP _ _ _)) ?_
  (refine TD.box (v := ?v12) (by simp only [zA, zB, zC]; rfl) rfl ?hw12 rfl rfl ?hx12 (fun p1 hp1 => ?hn12); (case hw12 => rfl); (case hx12 => (simp only [Act.eval, zD, zA, zB, zC, zE]; (try rfl))); (try simp only [Act.put, zF, zG, zH]))
  (refine TD.val0 (v := ?v13) (by simp only [zA, zB, zC]; rfl) rfl ?hw13 (fun w1 => ?hy13) ?hn13; (case hw13 => rfl); (case hy13 => (go_simp; (try with_reducible rfl))); (try simp only [Act.put, zF, zG, zH]))
  refine TD.nil (fun w1 hr => ?_)
  have kp1 := hr.box p1 _ (by first | exact Bx.set_same _ _ _ | (simp only [Bx.set_same]; rfl)); dsimp only [Value.cells] at kp1; obtain ⟨gp1, kp1⟩ := kp1
  have m1 := hr.mod
  clear hr
  go_upto_region 1 with fail
  have Lkp1 := lt_size kp1
  refine wp_gpass (T0 := fun _ => False) (K := fun _ _ => True) (κ := fun i => [0, 0, 0, 0, 0, 0, 6, 0, 0, 0, 0, 6, 0].getD i 0) (υ := fun i => [[], [], [], [], [], [], [], [], [], [], [], [], []].getD i []) [0, 1, 2, 3, 4, 5, 6, 7, 8, 9, 10, 11, 12] (by kernel_rfl) (by kernel_rfl) (Good.true).cl (trivial) (fun _ h => h.elim) ?_
  have gK := Good.true
  (refine TG.v0 (v := ?v14) (by simp only [zA, zB, zC]; rfl) rfl ?hw14 (fun w1 => ?hy14) ?hn14; (case hw14 => rfl); (case hy14 => (go_simp; (try with_reducible rfl))); (try simp only [Act.put, zF, zG, zH]))
  (refine TG.v0 (v := ?v15) (by simp only [zA, zB, zC]; rfl) rfl ?hw15 (fun w1 => ?hy15) ?hn15; (case hw15 => rfl); (case hy15 => (go_simp; (try with_reducible rfl))); (try simp only [Act.put, zF, zG, zH]))
  (refine TG.load (v := ?v16) (p := ?p16) (by simp only [zA, zB, zC]; rfl) rfl ?hw16 rfl ?hx16 (fun wq hSq => ?hy16) ?hn16; (case hw16 => rfl); (case hx16 => (simp only [Act.eval, zD, zA, zB, zC, zE]; (try rfl))); (case hy16 => (have kp1q := hSq.at kp1 (by intro hT; first | exact hT | exact absurd hT (by assumption) | omega | (simp only at hT; omega)); go_simp; (try with_reducible rfl))); (try simp only [Act.put, zF, zG, zH]))
  (refine TG.v0 (v := ?v17) (by simp only [zA, zB, zC]; rfl) rfl ?hw17 (fun w1 => ?hy17) ?hn17; (case hw17 => rfl); (case hy17 => (go_simp; (try with_reducible rfl))); (try simp only [Act.put, zF, zG, zH]))
  (refine TG.v0 (v := ?v18) (by simp only [zA, zB, zC]; rfl) rfl ?hw18 (fun w1 => ?hy18) ?hn18; (case hw18 => rfl); (case hy18 => (go_simp; (try with_reducible rfl))); (try simp only [Act.put, zF, zG, zH]))
  (refine TG.load (v := ?v19) (p := ?p19) (by simp only [zA, zB, zC]; rfl) rfl ?hw19 rfl ?hx19 (fun wq hSq => ?hy19) ?hn19; (case hw19 => rfl); (case hx19 => (simp only [Act.eval, zD, zA, zB, zC, zE]; (try rfl))); (case hy19 => (have kp1q := hSq.at kp1 (by intro hT; first | exact hT | exact absurd hT (by assumption) | omega | (simp only at hT; omega)); go_simp; (try with_reducible rfl))); (try simp only [Act.put, zF, zG, zH]))
  (refine TG.callN (f := ?f20) (args := ?r20) (fun v => ∃ a c, v = .slice a (wrL x.r.ro.l).length c) gK (by simp only [zA, zB, zC]; rfl) rfl ?hw20 (fun w1 => ?hy20) (fun T wq kq ltq hSq ub => ?hsp20) ?hn20; (case hw20 => rfl); (case hy20 => (go_simp; (first | with_reducible rfl | (constructor <;> with_reducible rfl)))); (case hsp20 => (have kp1q := hSq.at kp1 (by intro hT; first | exact hT | exact absurd hT (by assumption) | omega | (simp only at hT; omega)); exact (written_c x.r.ro.a x.r.ro.l x.r.ro.c wq (HI.out.1.mod0 (m1.then0 hSq)) (by omega)).mono (fun e w' h => by obtain ⟨v, h1, h2, h3⟩ := h; obtain ⟨a, h4, _⟩ := h2.at; exact ⟨v, h1, ⟨a, _, h4⟩, h3⟩))); rintro v20 hC; (obtain ⟨a9, c9, rfl⟩ := hC); (try simp only [Act.put, zF, zG, zH]))
  (refine TG.v0 (v := ?v21) (by simp only [zA, zB, zC]; rfl) rfl ?hw21 (fun w1 => ?hy21) ?hn21; (case hw21 => rfl); (case hy21 => (go_simp; (try with_reducible rfl))); (try simp only [Act.put, zF, zG, zH]))
  (refine TG.v0 (v := ?v22) (by simp only [zA, zB, zC]; rfl) rfl ?hw22 (fun w1 => ?hy22) ?hn22; (case hw22 => rfl); (case hy22 => (go_simp; (try with_reducible rfl))); (try simp only [Act.put, zF, zG, zH]))
  (refine TG.v0 (v := ?v23) (by simp only [zA, zB, zC]; rfl) rfl ?hw23 (fun w1 => ?hy23) ?hn23; (case hw23 => rfl); (case hy23 => (go_simp; (try with_reducible rfl))); (try simp only [Act.put, zF, zG, zH]))
  (refine TG.load (v := ?v24) (p := ?p24) (by simp only [zA, zB, zC]; rfl) rfl ?hw24 rfl ?hx24 (fun wq hSq => ?hy24) ?hn24; (case hw24 => rfl); (case hx24 => (simp only [Act.eval, zD, zA, zB, zC, zE]; (try rfl))); (case hy24 => (have kp1q := hSq.at kp1 (by intro hT; first | exact hT | exact absurd hT (by assumption) | omega | (simp only at hT; omega)); go_simp; (try with_reducible rfl))); (try simp only [Act.put, zF, zG, zH]))
  (refine TG.callN (f := ?f25) (args := ?r25) (fun v => v = u64v (coF (UInt64.ofNat x.r.sg.l.length) (UInt64.ofNat (wrL x.r.ro.l).length) (dSum x.r.ins.l) x.o.un)) gK (by simp only [zA, zB, zC]; rfl) rfl ?hw25 (fun w1 => ?hy25) (fun T wq kq ltq hSq ub => ?hsp25) ?hn25; (case hw25 => rfl); (case hy25 => (go_simp; (first | with_reducible rfl | (constructor <;> with_reducible rfl)))); (case hsp25 => (have kp1q := hSq.at kp1 (by intro hT; first | exact hT | exact absurd hT (by assumption) | omega | (simp only at hT; omega)); exact (of_c x.r (wrL x.r.ro.l).length x.o.un (by have := wrL_len x.r.ro.l; omega) wq (HI.out.2.1.mod0 (m1.then0 hSq)) b1 b2 HI.out.2.2).mono (fun e w' h => ⟨_, h.1, rfl, h.2⟩))); rintro v25 hC; subst hC; (try simp only [Act.put, zF, zG, zH]))
  (refine TG.v0 (v := ?v26) (by simp only [zA, zB, zC]; rfl) rfl ?hw26 (fun w1 => ?hy26) ?hn26; (case hw26 => rfl); (case hy26 => (go_simp; (try with_reducible rfl))); (try simp only [Act.put, zF, zG, zH]))
  refine TG.nil (fun w3 ⟨TR, hr⟩ => ?_)
  replace kp1 := hr.mod.at kp1 (by intro hT; first | exact hT | exact absurd hT (by assumption) | omega | (simp only at hT; omega))
  clear gK
  have m3 := m1.then0 hr.mod
  clear hr
  go_wp2_with fail
  go_ret
  exact ⟨rfl, m3⟩
end Go.Proofs.Ytofpnmoeimjnnaa
