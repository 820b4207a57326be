/- The lemmas of the proof, part 6: how the program and its data lie in memory, and what its functions do. -/
import Derived.Test.YtofpnmoeimjnnaaGreatK5
namespace Go.Proofs.YtofpnmoeimjnnaaGreat
open Go.RowKit
open Go.ChangeMaps (setBlock)
set_option linter.unusedSimpArgs false
set_option linter.unusedVariables false
attribute [local go_sem ↓] wlKey ldKey stKey wlAcct ldAcct stAcct wlHold ldHold stHold eqKey1 eqAcct eqHold
attribute [local go_sem] eqMap neMap av_size av_c av_s av_c' av_s' av_o av_all av_one hd_size hd_key hd_acct hd_all hd_one zKey_size zAcct_size zHold_size cell_blk frozen_blk kc_ext one_int one_bool one_ptr one_slice one_map kc_one kc_one0 kc_size Value.cells
def StAt (w : World) (p b : Nat) (m : List (Key × Acct)) : Prop :=
  w.heap[p]? = some (.cells #[.map (some b)] 136 (0, 0)) ∧ ∃ es c, w.heap[b]? = some (.map es c) ∧ MapIs kv avv es c m
theorem StAt.nodup {w : World} {p b : Nat} {m : List (Key × Acct)} (h : StAt w p b m) : (m.map Prod.fst).Nodup := by
  obtain ⟨kp, es, c, kb, M⟩ := h
  exact M.nodup
theorem newS_c (w : World) : Calls Tryz.prog 20 #[] w fun e w' => ∃ p b, e = .returned (.pointer (some ⟨p, 0, none⟩)) ∧ w.heap.size ≤ p ∧ w.heap.size ≤ b ∧ StAt w' p b [] ∧ Mod (fun _ => False) w w' := by
  have hmm := @run_makeMap Tryz.prog
  go_enter Tryz.func20, Tryz.ntmps20
  go_wp2_with fail
  go_ret
  obtain ⟨h1, h2⟩ := fresh2 w (.map #[] 0) (.cells #[.map (some w.heap.size)] 136)
  exact ⟨_, w.heap.size, rfl, by omega, by omega, ⟨h2, _, _, h1, MapIs.empty kv avv⟩, ((Mod.refl _ _).alloc _).alloc _⟩
end Go.Proofs.YtofpnmoeimjnnaaGreat
namespace Go.Proofs.YtofpnmoeimjnnaaGreat
open Go.RowKit
open Go.ChangeMaps (setBlock)
set_option linter.unusedSimpArgs false
set_option linter.unusedVariables false
attribute [local go_sem ↓] wlKey ldKey stKey wlAcct ldAcct stAcct wlHold ldHold stHold wlHash ldHash stHash wlSig ldSig stSig wlLim ldLim stLim wlRdy ldRdy stRdy wlOut ldOut stOut wlTd ldTd stTd wlTx ldTx stTx eqKey1
attribute [local go_sem] eqMap neMap av_size av_all av_one hd_size hd_key hd_acct hd_all hd_one zKey_size zAcct_size zHold_size zHash_size zSg_size zLim_size zRdy_size zOut_size zTried_size zTx_size cell_blk frozen_blk kc_ext one_int one_bool one_ptr one_slice one_map kc_one kc_one0 kc_size sgc_size sgc_ext sgc_one0 sgc_one' rdr_size rdr_all rdr_one rdr_tx rdr_rec rdr0 rdr1 rdr41 rdr0' rdr1' rdr41' ocr_size ocr_all ocr_one ocr2 ocr3 ocr4 ocr5 ocr2' ocr3' ocr4' ocr5' tdr_size tdr_all tdr_one tdr_r tdr_o tdr_tx tdr_rec tdr0 tdr1 tdr41 tdr50 tdr51 tdr52 tdr53 tdr0' tdr1' tdr41' tdr50' tdr51' tdr52' tdr53' txr_size txr_all txr_one txr0 txr38 txr39 txr0' txr38' txr39' Value.cells
def TrAt (w : World) (t m : Nat) (L : Lim) (b s : UInt64) (l : List (Key × UInt64)) : Prop :=
  w.heap[t]? = some (.cells #[u64v L.b, u64v L.a, u64v L.s, u64v b, u64v s, .map (some m)] 196 (0, 0)) ∧ ∃ es c, w.heap[m]? = some (.map es c) ∧ MapIs kv u64v es c l
def QuAt (w : World) (q : Nat) (L : List Key) : Prop := ∃ (R : List Key) (nx : Nat), w.heap[q]? = some (.cells (qr R (nx : Int) (L.length : Int) 1) 139 (0, 0)) ∧ QIs R nx L
def SgL (T : Nat → Prop) (B : Nat) (w : World) (v : Value) : Prop := ∃ l : List Sg, SlOwn sgc 64 66 w 0 v l ∧ (∀ g, v.ownBlock = some g → T g) ∧ l.length ≤ B
structure SeAt (T : Nat → Prop) (w : World) (n : Nat) (l : List (Sg × Key)) : Prop where
  ex : ∃ a b es c es2 c2, ∃ m2 : List (Key × Value), w.heap[n]? = some (.cells #[.map (some a), .map (some b)] 143 (0, 0)) ∧ w.heap[a]? = some (.map es c) ∧ MapIs sgv kv es c l ∧ w.heap[b]? = some (.map es2 c2) ∧ MapIs kv id es2 c2 m2 ∧
    a ≠ b ∧ T n ∧ T a ∧ T b ∧ (∀ p ∈ m2, SgL T l.length w p.2) ∧ ∀ p ∈ m2, ∀ q ∈ m2, p.1 ≠ q.1 → ∀ i, p.2.ownBlock = some i → q.2.ownBlock ≠ some i
theorem newQ_c (w : World) : Calls Tryz.prog 21 #[] w fun e w' => ∃ q, e = .returned (ptrV q) ∧ w.heap.size ≤ q ∧ QuAt w' q [] ∧ Mod (fun _ => False) w w' := by
  have hb := bldQueue
  go_enter Tryz.func21, Tryz.ntmps21
  go_upto_region 1 with fail
  refine wp_pass0 (C := fun _ _ _ => False) (κ := fun i => [0, 3, 0].getD i 0) [0, 1, 2] (by kernel_rfl) (by kernel_rfl) (fun _ _ d _ _ h => by cases d <;> first | exact h | exact absurd h (hP _ _ _)) ?_
  (refine TD.build (v := ?v1) (ps := ?p1) (by simp only [zA, zB, zC]; rfl) rfl ?hw1 rfl ?hx1 (fun w1 => ?hy1) ?hn1; (case hw1 => rfl); (case hx1 => (simp only [List.map_toArray, List.map_cons, List.map_nil, Act.eval, zD, zA, zB, zC, zE]; (try rfl))); (case hy1 => (rw [hb]; (try with_reducible rfl))); (try simp only [Act.put, zF, zG, zH]))
  (refine TD.box (v := ?v2) (by simp only [zA, zB, zC]; rfl) rfl ?hw2 rfl rfl ?hx2 (fun p2 hp2 => ?hn2); (case hw2 => rfl); (case hx2 => (simp only [Act.eval, zD, zA, zB, zC, zE]; (try rfl))); (try simp only [Act.put, zF, zG, zH]))
  (refine TD.val0 (v := ?v3) (by simp only [zA, zB, zC]; rfl) rfl ?hw3 (fun w1 => ?hy3) ?hn3; (case hw3 => rfl); (case hy3 => (go_simp; (try with_reducible rfl))); (try simp only [Act.put, zF, zG, zH]))
  refine TD.nil (fun w1 hr => ?_)
  have kp2 := hr.box p2 _ (by first | exact Bx.set_same _ _ _ | (simp only [Bx.set_same]; rfl)); dsimp only [Value.cells] at kp2; obtain ⟨gp2, kp2⟩ := kp2
  go_wp2_with fail
  go_ret
  exact ⟨_, rfl, gp2, ⟨ring0, 0, kp2, QIs.zero _ (by simp [ring0])⟩, hr.mod⟩
theorem newN_c (w : World) : Calls Tryz.prog 22 #[] w fun e w' => ∃ n, e = .returned (ptrV n) ∧ w.heap.size ≤ n ∧ n < w'.heap.size ∧ SeAt (fun i => w.heap.size ≤ i) w' n [] ∧ Mod (fun _ => False) w w' := by
  have hmm := @run_makeMap Tryz.prog
  go_enter Tryz.func22, Tryz.ntmps22
  go_wp2_with fail
  go_ret
  obtain ⟨h1, h2, h3⟩ := fresh3 w (.map #[] 0) (.map #[] 0) (.cells #[.map (some w.heap.size), .map (some (w.heap.size + 1))] 143)
  exact ⟨_, rfl, by omega, lt_size h3, ⟨w.heap.size, w.heap.size + 1, _, _, _, _, [], h3, h1, MapIs.empty sgv kv, h2, MapIs.empty kv id, by omega, by omega, by omega, by omega, (fun p hp => by cases hp), fun p hp => by cases hp⟩, (((Mod.refl _ _).alloc _).alloc _).alloc _⟩
theorem newT_c (L : Lim) (w : World) : Calls Tryz.prog 53 #[.agg #[u64v L.b, u64v L.a, u64v L.s]] w fun e w' => ∃ t m, e = .returned (ptrV t) ∧ w.heap.size ≤ t ∧ w.heap.size ≤ m ∧ TrAt w' t m L 0 0 [] ∧ Mod (fun _ => False) w w' := by
  have hmm := @run_makeMap Tryz.prog
  have hb := bldTr
  go_enter Tryz.func53, Tryz.ntmps53
  go_upto_region 0 with fail
  refine wp_pass0 (C := fun _ _ _ => False) (κ := fun i => [3, 0].getD i 0) [0, 1] (by kernel_rfl) (by kernel_rfl) (fun _ _ d _ _ h => by cases d <;> first | exact h | exact absurd h (hP _ _ _)) ?_
  (refine TD.box (v := ?v4) (by simp only [zA, zB, zC]; rfl) rfl ?hw4 rfl rfl ?hx4 (fun p1 hp1 => ?hn4); (case hw4 => rfl); (case hx4 => (simp only [Act.eval, zD, zA, zB, zC, zE]; (try rfl))); (try simp only [Act.put, zF, zG, zH]))
  (refine TD.val0 (v := ?v5) (by simp only [zA, zB, zC]; rfl) rfl ?hw5 (fun w1 => ?hy5) ?hn5; (case hw5 => rfl); (case hy5 => (go_simp; (try with_reducible rfl))); (try simp only [Act.put, zF, zG, zH]))
  refine TD.nil (fun w1 hr => ?_)
  have kp1 := hr.box p1 _ (by first | exact Bx.set_same _ _ _ | (simp only [Bx.set_same]; rfl)); dsimp only [Value.cells] at kp1; obtain ⟨gp1, kp1⟩ := kp1
  have m1 := hr.mod
  have ht1 := hr.mod.size
  go_wp2_with fail
  go_ret
  obtain ⟨h1, h2⟩ := fresh2 w1 (.map #[] 0) (.cells #[u64v L.b, u64v L.a, u64v L.s, .int .u64 0, .int .u64 0, .map (some w1.heap.size)] 196)
  exact ⟨_, w1.heap.size, rfl, by omega, by omega, ⟨h2, _, _, h1, MapIs.empty kv u64v⟩, (m1.alloc _).alloc _⟩
end Go.Proofs.YtofpnmoeimjnnaaGreat
namespace Go.Proofs.YtofpnmoeimjnnaaGreat
open Go.RowKit
open Go.ChangeMaps (setBlock)
set_option linter.unusedSimpArgs false
set_option linter.unusedVariables false
attribute [local go_sem ↓] wlKey ldKey stKey wlAcct ldAcct stAcct wlHold ldHold stHold wlHash ldHash stHash wlSig ldSig stSig wlLim ldLim stLim wlRdy ldRdy stRdy wlOut ldOut stOut wlTd ldTd stTd wlTx ldTx stTx eqKey1
attribute [local go_sem] eqMap neMap av_size av_all av_one hd_size hd_key hd_acct hd_all hd_one zKey_size zAcct_size zHold_size zHash_size zSg_size zLim_size zRdy_size zOut_size zTried_size zTx_size cell_blk frozen_blk kc_ext one_int one_bool one_ptr one_slice one_map kc_one kc_one0 kc_size sgc_size sgc_ext sgc_one0 sgc_one' rdr_size rdr_all rdr_one rdr_tx rdr_rec rdr0 rdr1 rdr41 rdr0' rdr1' rdr41' ocr_size ocr_all ocr_one ocr2 ocr3 ocr4 ocr5 ocr2' ocr3' ocr4' ocr5' tdr_size tdr_all tdr_one tdr_r tdr_o tdr_tx tdr_rec tdr0 tdr1 tdr41 tdr50 tdr51 tdr52 tdr53 tdr0' tdr1' tdr41' tdr50' tdr51' tdr52' tdr53' txr_size txr_all txr_one txr0 txr38 txr39 txr0' txr38' txr39' Value.cells
def blkC (s q n t : Nat) (e : Bool) (ea : Option Addr) (en ec : Nat) (oa : Option Addr) (on oc : Nat) (f : UInt64) : Array Value := #[ptrV s, ptrV q, ptrV n, ptrV t, .bool e, .slice ea en ec, .slice oa on oc, u64v f]
theorem bthere_c {p s q n t : Nat} {e : Bool} {ea : Option Addr} {en ec : Nat} {oa : Option Addr} {on oc : Nat} {f : UInt64} (w : World) (kp : w.heap[p]? = some (.cells (blkC s q n t e ea en ec oa on oc f) 125 (0, 0))) : Calls Tryz.prog 45 #[ptrV p] w fun e w' => e = .returned (.bool true) ∧ w = w' := by
  unfold blkC at kp
  go_enter Tryz.func45, Tryz.ntmps45
  go_wp2
  go_ret
  exact ⟨rfl, rfl⟩
def ern (v : Nat) : Array Value := #[.int .i64 (v : Int)]
def errC (l : List Nat) : Array Value := (l.map fun v : Nat => Value.int .i64 (v : Int)).toArray
theorem errC_size (l : List Nat) : (errC l).size = l.length := by simp [errC]
theorem errC_at {w : World} {g : Nat} {l : List Nat} {U : TypeId} (h : w.heap[g]? = some (.cells (errC l) U (0, 0))) : SlAt ern 1 w (some ⟨g, 0, none⟩) l := by
  refine .inr ⟨g, 0, _, U, (0, 0), rfl, h, fun i x hx => ?_⟩
  obtain ⟨hi, rfl⟩ := List.getElem?_eq_some_iff.1 hx
  refine ⟨?_, by rw [errC_size]; omega⟩
  apply Array.ext_getElem?
  intro j
  simp only [Nat.zero_add, Nat.mul_one, Array.getElem?_extract, errC, zA, List.getElem?_map, List.size_toArray, List.length_map, ern]
  cases j with
  | zero => simp [hi]; omega
  | succ j =>
    rw [if_neg (by omega)]
    rfl
theorem errC_set (l : List Nat) (i v : Nat) : (errC l).setIfInBounds i (.int .i64 (v : Int)) = errC (l.set i v) := by
  simp [errC, List.map_set]
theorem mkErr (n : Nat) (hn : n ≤ 100000) (w : World) : (Instr.makeSlice 68 (.int .i64 (n : Int)) (.int .i64 (n : Int))).run Tryz.prog w = .ok (.slice (some ⟨w.heap.size, 0, none⟩) n n) (w.alloc (.cells (errC (List.replicate n 0)) 26)) := by
  obtain ⟨i0, hi, hz0, hz1, hz2⟩ := info_parts (show (Tryz.prog.info? 26).map (fun i => (i.zero, i.size, i.bytes)) = some (some (.int .i64 0), 1, 8) by kernel_rfl)
  have := run_make (P := Tryz.prog) w 68 26 i0 _ Tryz.underlying68 hi hz0 .i64 .i64 (n : Int) (n : Int) (by omega) (by omega) (by rw [hz2]; omega) (by omega)
  rw [hz1, Nat.mul_one] at this
  have hc : madeCells #[Value.int .i64 0] n = errC (List.replicate n 0) := by
    apply Array.toList_inj.1
    rw [toList_madeCells_one]
    simp [errC]
  simpa [Value.cells, hc] using this
end Go.Proofs.YtofpnmoeimjnnaaGreat
namespace Go.Proofs.YtofpnmoeimjnnaaGreat
open Go.RowKit
open Go.ChangeMaps (setBlock)
set_option linter.unusedSimpArgs false
set_option linter.unusedVariables false
attribute [local go_sem ↓] wlKey ldKey stKey wlAcct ldAcct stAcct wlHold ldHold stHold wlHash ldHash stHash wlSig ldSig stSig wlLim ldLim stLim wlRdy ldRdy stRdy wlOut ldOut stOut wlTd ldTd stTd wlTx ldTx stTx eqKey1
attribute [local go_sem] eqMap neMap av_size av_all av_one hd_size hd_key hd_acct hd_all hd_one zKey_size zAcct_size zHold_size zHash_size zSg_size zLim_size zRdy_size zOut_size zTried_size zTx_size cell_blk frozen_blk kc_ext one_int one_bool one_ptr one_slice one_map kc_one kc_one0 kc_size sgc_size sgc_ext sgc_one0 sgc_one' rdr_size rdr_all rdr_one rdr_tx rdr_rec rdr0 rdr1 rdr41 rdr0' rdr1' rdr41' ocr_size ocr_all ocr_one ocr2 ocr3 ocr4 ocr5 ocr2' ocr3' ocr4' ocr5' tdr_size tdr_all tdr_one tdr_r tdr_o tdr_tx tdr_rec tdr0 tdr1 tdr41 tdr50 tdr51 tdr52 tdr53 tdr0' tdr1' tdr41' tdr50' tdr51' tdr52' tdr53' txr_size txr_all txr_one txr0 txr38 txr39 txr0' txr38' txr39' Value.cells
theorem ern_at {w : World} {a : Option Addr} {l : List Nat} (h : SlAt ern 1 w a l) {i : Nat} {x : Nat} (hx : l[i]? = some x) : ∃ b o C U fr, a = some ⟨b, o, none⟩ ∧ w.heap[b]? = some (.cells C U fr) ∧ C[o + i]? = some (.int .i64 (x : Int)) := by
  obtain ⟨b, o, C, U, fr, rfl, hk, he, _⟩ := h.block hx
  refine ⟨b, o, C, U, fr, rfl, hk, ?_⟩
  have := cellC he (j := 0) (v := .int .i64 (x : Int)) rfl
  simpa using this
theorem take_eq_ern {l1 l2 : List Nat} {i : Nat} {x : Nat} (h : l1.take i = l2.take i) (h1 : l1[i]? = some x) (h2 : l2[i]? = some x) : l1.take (i + 1) = l2.take (i + 1) := by
  rw [List.take_add_one, List.take_add_one, h, h1, h2]
set_option maxRecDepth 20000 in
set_option maxHeartbeats 1600000 in
theorem errors_c (a b : Option Addr) (l1 l2 : List Nat) (c1 c2 : Nat) (w : World) (h1 : SlAt ern 1 w a l1) (h2 : SlAt ern 1 w b l2) (n1 : l1.length ≤ 100000) (n2 : l2.length ≤ 100000) :
    Calls Tryz.prog 24 #[.slice a l1.length c1, .slice b l2.length c2] w fun e w' => e = .returned (.bool (decide (l1 = l2))) ∧ Mod (fun _ => False) w w' := by
  have H1 := Lib.hid h1
  have H2 := Lib.hid h2
  clear h1 h2
  go_enter Tryz.func24, Tryz.ntmps24
  go_wp2_with fail
  go_loopw [5] (fun s5 ws => ∃ i : Nat, i ≤ l1.length ∧ i ≤ l2.length ∧ s5 = .int .i64 i ∧ Hid (l1.take i = l2.take i) ∧ Mod (fun _ => False) w ws) (fun s5 _ => l1.length - (intOf s5).toNat)
  case atStart => exact ⟨0, Nat.zero_le _, Nat.zero_le _, rfl, Lib.hid (by simp), Mod.refl _ _⟩
  case round =>
    obtain ⟨i, hi1, hi2, rfl, HT, hm⟩ := hrel
    by_cases hl1 : i < l1.length
    · have hd1 := decide_eq_true hl1
      by_cases hl2 : i < l2.length
      · have hd2 := decide_eq_true hl2
        obtain ⟨x, hx⟩ : ∃ x, l1[i]? = some x := ⟨_, List.getElem?_eq_getElem hl1⟩
        obtain ⟨y, hy⟩ : ∃ y, l2[i]? = some y := ⟨_, List.getElem?_eq_getElem hl2⟩
        obtain ⟨b1, o1, C1, U1, f1, rfl, k1, v1⟩ := ern_at (H1.out.mod0 hm) hx
        obtain ⟨b2, o2, C2, U2, f2, rfl, k2, v2⟩ := ern_at (H2.out.mod0 hm) hy
        have HX := Lib.hid (And.intro hx hy)
        clear hx hy
        go_upto_region 4 with fail
        have Lk1 := lt_size k1
        have Lk2 := lt_size k2
        refine wp_pass (C := fun _ _ _ => False) (κ := fun i => [0, 0, 0, 1, 0, 0, 0, 1, 0].getD i 0) [0, 1, 2, 3, 4, 5, 6, 7, 8] (by kernel_rfl) (by kernel_rfl) (fun _ _ d _ _ h => by cases d <;> first | exact h | exact absurd h (hP _ _ _)) ?_
        (refine TD.val0 (v := ?v1) (by simp only [zA, zB, zC]; rfl) rfl ?hw1 (fun w1 => ?hy1) ?hn1; (case hw1 => rfl); (case hy1 => (go_simp; (try with_reducible rfl))); (try simp only [Act.put, zF, zG, zH]))
        (refine TD.val0 (v := ?v2) (by simp only [zA, zB, zC]; rfl) rfl ?hw2 (fun w1 => ?hy2) ?hn2; (case hw2 => rfl); (case hy2 => (go_simp; (try with_reducible rfl))); (try simp only [Act.put, zF, zG, zH]))
        (refine TD.val0 (v := ?v3) (by simp only [zA, zB, zC]; rfl) rfl ?hw3 (fun w1 => ?hy3) ?hn3; (case hw3 => rfl); (case hy3 => (go_simp; (try with_reducible rfl))); (try simp only [Act.put, zF, zG, zH]))
        (refine TD.load (v := ?v4) (p := ?p4) (Mod.refl _ _) (by simp only [zA, zB, zC]; rfl) rfl ?hw4 rfl ?hx4 (fun wq hSq => ?hy4) ?hn4; (case hw4 => rfl); (case hx4 => (simp only [Act.eval, zD, zA, zB, zC, zE]; (try rfl))); (case hy4 => (have k1q := hSq.at k1 (fun h => h); have k2q := hSq.at k2 (fun h => h); go_simp; (try with_reducible rfl))); (try simp only [Act.put, zF, zG, zH]))
        (refine TD.val0 (v := ?v5) (by simp only [zA, zB, zC]; rfl) rfl ?hw5 (fun w1 => ?hy5) ?hn5; (case hw5 => rfl); (case hy5 => (go_simp; (try with_reducible rfl))); (try simp only [Act.put, zF, zG, zH]))
        (refine TD.val0 (v := ?v6) (by simp only [zA, zB, zC]; rfl) rfl ?hw6 (fun w1 => ?hy6) ?hn6; (case hw6 => rfl); (case hy6 => (go_simp; (try with_reducible rfl))); (try simp only [Act.put, zF, zG, zH]))
        (refine TD.val0 (v := ?v7) (by simp only [zA, zB, zC]; rfl) rfl ?hw7 (fun w1 => ?hy7) ?hn7; (case hw7 => rfl); (case hy7 => (go_simp; (try with_reducible rfl))); (try simp only [Act.put, zF, zG, zH]))
        (refine TD.load (v := ?v8) (p := ?p8) (Mod.refl _ _) (by simp only [zA, zB, zC]; rfl) rfl ?hw8 rfl ?hx8 (fun wq hSq => ?hy8) ?hn8; (case hw8 => rfl); (case hx8 => (simp only [Act.eval, zD, zA, zB, zC, zE]; (try rfl))); (case hy8 => (have k1q := hSq.at k1 (fun h => h); have k2q := hSq.at k2 (fun h => h); go_simp; (try with_reducible rfl))); (try simp only [Act.put, zF, zG, zH]))
        (refine TD.val0 (v := ?v9) (by simp only [zA, zB, zC]; rfl) rfl ?hw9 (fun w1 => ?hy9) ?hn9; (case hw9 => rfl); (case hy9 => (go_simp; (try with_reducible rfl))); (try simp only [Act.put, zF, zG, zH]))
        refine TD.nil (fun w3 hr => ?_)
        replace k1 := hr.mod.at k1 (fun h => h)
        replace k2 := hr.mod.at k2 (fun h => h)
        have m3 := hm.then0 hr.mod
        clear hr
        by_cases hxy : x = y
        · have HE := Lib.hid hxy
          have hne : ((x : Int) != (y : Int)) = false := by rw [hxy]; simp
          have HTT := Lib.hid (take_eq_ern HT.out HX.out.1 (by rw [HX.out.2, hxy]))
          clear hxy
          go_wp2_with fail
          go_roundw
          case rel => exact ⟨i + 1, by omega, by omega, by go_num, HTT, m3⟩
          case measure => simp [intOf]; omega
        · have hne : ((x : Int) != (y : Int)) = true := by
            rw [bne_iff_ne]
            intro e
            exact hxy (by omega)
          have HE : Hid (l1 ≠ l2) := Lib.hid (fun e => by
            have h1 := HX.out.1
            rw [e, HX.out.2] at h1
            exact hxy (Option.some.inj h1).symm)
          clear hxy
          go_wp2_with fail
          go_ret
          exact ⟨by rw [decide_eq_false HE.out]; rfl, m3⟩
      · have hd2 := decide_eq_false hl2
        have HE : Hid (l1 ≠ l2) := Lib.hid (fun e => by rw [e] at hl1; exact hl2 hl1)
        have hne : ((l1.length : Int) == (l2.length : Int)) = false := by
          rw [beq_eq_false_iff_ne]
          omega
        go_wp2_with fail
        go_ret
        exact ⟨by rw [decide_eq_false HE.out]; rfl, hm⟩
    · have hd1 := decide_eq_false hl1
      have HI : Hid (i = l1.length) := Lib.hid (by omega)
      by_cases hle : l1.length = l2.length
      · have hne : ((l1.length : Int) == (l2.length : Int)) = true := by
          rw [beq_iff_eq]
          omega
        have HE : Hid (l1 = l2) := Lib.hid (by
          have h1 := HT.out
          rw [HI.out, List.take_length, hle, List.take_length] at h1
          exact h1)
        clear hle
        go_wp2_with fail
        go_ret
        exact ⟨by rw [decide_eq_true HE.out]; rfl, hm⟩
      · have hne : ((l1.length : Int) == (l2.length : Int)) = false := by
          rw [beq_eq_false_iff_ne]
          omega
        have HE : Hid (l1 ≠ l2) := Lib.hid (fun e => hle (by rw [e]))
        clear hle
        go_wp2_with fail
        go_ret
        exact ⟨by rw [decide_eq_false HE.out]; rfl, hm⟩
theorem TrAt.mod {w w' : World} {t m : Nat} {L : Lim} {b s : UInt64} {l : List (Key × UInt64)} {S : Nat → Prop} (h : TrAt w t m L b s l) (hm : Mod S w w') (h1 : ¬ S t) (h2 : ¬ S m) : TrAt w' t m L b s l := by
  obtain ⟨kp, es, c, kb, M⟩ := h
  exact ⟨hm.at kp h1, es, c, hm.at kb h2, M⟩
theorem TrAt.mod0 {w w' : World} {t m : Nat} {L : Lim} {b s : UInt64} {l : List (Key × UInt64)} (h : TrAt w t m L b s l) (hm : Mod (fun _ => False) w w') : TrAt w' t m L b s l := h.mod hm (fun h => h) (fun h => h)
set_option maxHeartbeats 1600000 in
theorem open_c (s q n : Nat) (L : Lim) (w : World) : Calls Tryz.prog 19 #[ptrV s, ptrV q, ptrV n, .agg #[u64v L.b, u64v L.a, u64v L.s]] w fun e w' => ∃ b t m, e = .returned (.tuple #[ptrV b, .int .i64 0]) ∧ w.heap.size ≤ b ∧ w.heap.size ≤ t ∧ w.heap.size ≤ m ∧ w'.heap[b]? = some (.cells (blkC s q n t false none 0 0 none 0 0 0) 125 (0, 0)) ∧ TrAt w' t m L 0 0 [] ∧ Mod (fun _ => False) w w' := by
  have hg := bldGround s q n
  go_enter Tryz.func19, Tryz.ntmps19
  go_upto_region 0 with fail
  refine wp_pass0 (C := fun _ _ _ => False) (κ := fun i => [3, 0, 0].getD i 0) [0, 1, 2] (by kernel_rfl) (by kernel_rfl) (fun _ _ d _ _ h => by cases d <;> first | exact h | exact absurd h (hP _ _ _)) ?_
  (refine TD.box (v := ?v19) (by simp only [zA, zB, zC]; rfl) rfl ?hw19 rfl rfl ?hx19 (fun p7 hp7 => ?hn19); (case hw19 => rfl); (case hx19 => (simp only [Act.eval, zD, zA, zB, zC, zE]; (try rfl))); (try simp only [Act.put, zF, zG, zH]))
  (refine TD.val0 (v := ?v20) (by simp only [zA, zB, zC]; rfl) rfl ?hw20 (fun w1 => ?hy20) ?hn20; (case hw20 => rfl); (case hy20 => (go_simp; (try with_reducible rfl))); (try simp only [Act.put, zF, zG, zH]))
  (refine TD.val0 (v := ?v21) (by simp only [zA, zB, zC]; rfl) rfl ?hw21 (fun w1 => ?hy21) ?hn21; (case hw21 => rfl); (case hy21 => (go_simp; (try with_reducible rfl))); (try simp only [Act.put, zF, zG, zH]))
  refine TD.nil (fun w1 hr => ?_)
  have kp7 := hr.box p7 _ (by first | exact Bx.set_same _ _ _ | (simp only [Bx.set_same]; rfl)); dsimp only [Value.cells] at kp7; obtain ⟨gp7, kp7⟩ := kp7
  have m1 := hr.mod
  have hs1 := m1.size
  go_upto_region 3 with fail
  go_wp2_with fail
  go_at_call 53
  refine (newT_c L _).mono ?_
  rintro e w2 ⟨t, m, rfl, ht, hm, hT, m2⟩
  have hb := bldBlock s q n t
  go_wp2_with fail
  go_ret2
  have hs2 := m2.size
  exact ⟨w2.heap.size, t, m, rfl, by omega, by omega, by omega, heap_alloc_new _ _, hT.mod0 ((Mod.refl _ _).alloc _), (m1.then0 m2).alloc _⟩
set_option maxHeartbeats 1600000 in
theorem end_c {p s q n t : Nat} {ea : Option Addr} {en ec : Nat} {oa : Option Addr} {on oc : Nat} {f : UInt64} (w : World) (kp : w.heap[p]? = some (.cells (blkC s q n t false ea en ec oa on oc f) 125 (0, 0))) : Calls Tryz.prog 15 #[ptrV p] w fun e w' => e = .returned (.int .i64 0) ∧ w'.heap[p]? = some (.cells (blkC s q n t true ea en ec oa on oc f) 125 (0, 0)) ∧ Mod (fun i => i = p) w w' := by
  have KP := Lib.hid kp
  unfold blkC at kp
  go_enter Tryz.func15, Tryz.ntmps15
  go_wp2_with fail
  go_at_call 45
  refine (bthere_c _ KP.out).mono ?_
  rintro e w2 ⟨rfl, rfl⟩
  go_wp2_with fail
  go_ret
  rw [setCell_blk kp]
  exact ⟨rfl, heap_setBlock _ _ (lt_size kp), mod_set _ _ _⟩
theorem end2_c {p s q n t : Nat} {ea : Option Addr} {en ec : Nat} {oa : Option Addr} {on oc : Nat} {f : UInt64} (w : World) (kp : w.heap[p]? = some (.cells (blkC s q n t true ea en ec oa on oc f) 125 (0, 0))) : Calls Tryz.prog 15 #[ptrV p] w fun e w' => e = .returned (.int .i64 23) ∧ Mod (fun _ => False) w w' := by
  have KP := Lib.hid kp
  unfold blkC at kp
  go_enter Tryz.func15, Tryz.ntmps15
  go_wp2_with fail
  go_at_call 45
  refine (bthere_c _ KP.out).mono ?_
  rintro e w2 ⟨rfl, rfl⟩
  go_wp2_with fail
  go_ret
  exact ⟨rfl, Mod.refl _ _⟩
theorem ended_c {p s q n t : Nat} {b : Bool} {ea : Option Addr} {en ec : Nat} {oa : Option Addr} {on oc : Nat} {f : UInt64} (w : World) (kp : w.heap[p]? = some (.cells (blkC s q n t b ea en ec oa on oc f) 125 (0, 0))) : Calls Tryz.prog 23 #[ptrV p] w fun e w' => e = .returned (.bool b) ∧ Mod (fun _ => False) w w' := by
  have KP := Lib.hid kp
  unfold blkC at kp
  go_enter Tryz.func23, Tryz.ntmps23
  go_wp2_with fail
  go_at_call 45
  refine (bthere_c _ KP.out).mono ?_
  rintro e w2 ⟨rfl, rfl⟩
  go_wp2_with fail
  go_ret
  exact ⟨rfl, Mod.refl _ _⟩
end Go.Proofs.YtofpnmoeimjnnaaGreat
namespace Go.Proofs.YtofpnmoeimjnnaaGreat
open Go.RowKit
open Go.ChangeMaps (setBlock)
set_option linter.unusedSimpArgs false
set_option linter.unusedVariables false
attribute [local go_sem ↓] wlKey ldKey stKey wlAcct ldAcct stAcct wlHold ldHold stHold wlHash ldHash stHash wlSig ldSig stSig wlLim ldLim stLim wlRdy ldRdy stRdy wlOut ldOut stOut wlTd ldTd stTd wlTx ldTx stTx eqKey1
attribute [local go_sem] eqMap neMap av_size av_all av_one hd_size hd_key hd_acct hd_all hd_one zKey_size zAcct_size zHold_size zHash_size zSg_size zLim_size zRdy_size zOut_size zTried_size zTx_size cell_blk frozen_blk kc_ext one_int one_bool one_ptr one_slice one_map kc_one kc_one0 kc_size sgc_size sgc_ext sgc_one0 sgc_one' rdr_size rdr_all rdr_one rdr_tx rdr_rec rdr0 rdr1 rdr41 rdr0' rdr1' rdr41' ocr_size ocr_all ocr_one ocr2 ocr3 ocr4 ocr5 ocr2' ocr3' ocr4' ocr5' tdr_size tdr_all tdr_one tdr_r tdr_o tdr_tx tdr_rec tdr0 tdr1 tdr41 tdr50 tdr51 tdr52 tdr53 tdr0' tdr1' tdr41' tdr50' tdr51' tdr52' tdr53' txr_size txr_all txr_one txr0 txr38 txr39 txr0' txr38' txr39' Value.cells
set_option maxRecDepth 20000 in
theorem clipE_c (v2 : Value) (w : World) (n : Nat) {a : Option Addr} {c : Nat} (h : ∀ w2, (Instr.sliceAt 91 (.slice a n c) none (some (.int .i64 (n : Int))) (some (.int .i64 (n : Int)))).run Tryz.prog w2 = .ok v2 w2) :
    Calls Tryz.prog 56 #[.slice a n c] w fun e w' => e = .returned v2 ∧ w' = w := by
  go_enter Tryz.func56, Tryz.ntmps56
  go_wp2_with fail
  go_ret
  exact ⟨rfl, rfl⟩
set_option maxRecDepth 20000 in
theorem entries0_c {p s q n t : Nat} {b : Bool} {oa : Option Addr} {on oc : Nat} {f : UInt64} (w : World) (kp : w.heap[p]? = some (.cells (blkC s q n t b none 0 0 oa on oc f) 125 (0, 0))) : Calls Tryz.prog 25 #[ptrV p] w fun e w' => (∃ a c, e = .returned (.slice a 0 c)) ∧ Mod (fun _ => False) w w' := by
  have KP := Lib.hid kp
  unfold blkC at kp
  go_enter Tryz.func25, Tryz.ntmps25
  go_wp2_with fail
  go_at_call 45
  refine (bthere_c _ KP.out).mono ?_
  rintro e w2 ⟨rfl, rfl⟩
  have hcl : ∀ w2, (Instr.sliceAt 91 (.slice none 0 0) none (some (.int .i64 ((0 : Nat) : Int))) (some (.int .i64 ((0 : Nat) : Int)))).run Tryz.prog w2 = .ok (.slice none 0 0) w2 := fun w2 => by kernel_rfl
  go_upto_region 4 with fail
  go_loopw [2, 13] (fun s2 s13 ws => s2 = .slice none 0 0 ∧ s13 = .int .i64 0 ∧ ws = w) (fun _ _ _ => 0)
  case atStart => exact ⟨rfl, rfl, rfl⟩
  case round =>
    obtain ⟨rfl, rfl, rfl⟩ := hrel
    go_wp2_with fail
    go_at_call 56
    refine (clipE_c (a := none) (c := 0) (.slice none 0 0) _ 0 hcl).mono ?_
    rintro e w2 ⟨rfl, rfl⟩
    go_wp2_with fail
    go_ret
    exact ⟨⟨_, _, rfl⟩, Mod.refl _ _⟩
end Go.Proofs.YtofpnmoeimjnnaaGreat
namespace Go.Proofs.YtofpnmoeimjnnaaGreat
open Go.RowKit
open Go.ChangeMaps (setBlock)
set_option linter.unusedSimpArgs false
set_option linter.unusedVariables false
attribute [local go_sem ↓] wlKey ldKey stKey wlAcct ldAcct stAcct wlHold ldHold stHold wlHash ldHash stHash wlSig ldSig stSig wlLim ldLim stLim wlRdy ldRdy stRdy wlOut ldOut stOut wlTd ldTd stTd wlTx ldTx stTx eqKey1
attribute [local go_sem] eqMap neMap av_size av_all av_one hd_size hd_key hd_acct hd_all hd_one zKey_size zAcct_size zHold_size zHash_size zSg_size zLim_size zRdy_size zOut_size zTried_size zTx_size cell_blk frozen_blk kc_ext one_int one_bool one_ptr one_slice one_map kc_one kc_one0 kc_size sgc_size sgc_ext sgc_one0 sgc_one' rdr_size rdr_all rdr_one rdr_tx rdr_rec rdr0 rdr1 rdr41 rdr0' rdr1' rdr41' ocr_size ocr_all ocr_one ocr2 ocr3 ocr4 ocr5 ocr2' ocr3' ocr4' ocr5' tdr_size tdr_all tdr_one tdr_r tdr_o tdr_tx tdr_rec tdr0 tdr1 tdr41 tdr50 tdr51 tdr52 tdr53 tdr0' tdr1' tdr41' tdr50' tdr51' tdr52' tdr53' txr_size txr_all txr_one txr0 txr38 txr39 txr0' txr38' txr39' Value.cells
theorem hmf (fn : Fn) (first cap : Array Value) (w : World) : (Instr.makeFunc fn first cap).run Tryz.prog w = .ok (.func fn first cap) w := rfl
abbrev fn1 (p : Nat) : Value := .func (.func 77) #[] #[ptrV p]
abbrev fn2 (p q : Nat) : Value := .func (.func 78) #[] #[ptrV p, ptrV q]
abbrev fn3 (p q : Nat) : Value := .func (.func 80) #[] #[ptrV q, ptrV p]
theorem bsSteps (p q : Nat) (w : World) : (Instr.buildSlice 187 3 #[(0, fn1 p), (1, fn2 p q), (2, fn3 p q)]).run Tryz.prog w = .ok (.slice (some ⟨w.heap.size, 0, none⟩) 3 3) (w.alloc (.cells #[fn1 p, fn2 p q, fn3 p q] 67)) := by kernel_rfl
theorem step1_c {b s q n t : Nat} {e : Bool} {ea : Option Addr} {en ec : Nat} {oa : Option Addr} {on oc : Nat} {f : UInt64} {p : Nat} (w : World) (kb : w.heap[b]? = some (.cells (blkC s q n t e ea en ec oa on oc f) 125 (0, 0))) (kp : w.heap[p]? = some (.cells #[ptrV b] 60 (0, 0))) :
    Calls Tryz.prog 77 #[ptrV p] w fun r w' => r = .returned (.int .i64 (if e then 23 else 0)) ∧ w = w' := by
  unfold blkC at kb
  cases e
  all_goals
    go_enter Tryz.func77, Tryz.ntmps77
    go_wp2
    go_ret
    exact ⟨rfl, rfl⟩
set_option maxRecDepth 20000 in
set_option maxHeartbeats 3200000 in
theorem verdict_g {b : Nat} {x : TdR} {w : World} {v1 v2 : Nat} {R : Nat → World → World → Prop}
    (h1 : ∀ p w1, w1.heap[p]? = some (.cells #[ptrV b] 60 (0, 0)) → Mod (fun _ => False) w w1 → Calls Tryz.prog 77 #[ptrV p] w1 fun e w' => e = .returned (.int .i64 (v1 : Int)) ∧ Mod (fun _ => False) w1 w')
    (h2 : v1 = 0 → ∀ p q w1, w1.heap[p]? = some (.cells #[ptrV b] 60 (0, 0)) → w1.heap[q]? = some (.cells (tdr x) 79 (0, 0)) → Mod (fun _ => False) w w1 → Calls Tryz.prog 78 #[ptrV p, ptrV q] w1 fun e w' => e = .returned (.int .i64 (v2 : Int)) ∧ Mod (fun _ => False) w1 w')
    (h3 : v1 = 0 → v2 = 0 → ∀ p q w1, w1.heap[p]? = some (.cells #[ptrV b] 60 (0, 0)) → w1.heap[q]? = some (.cells (tdr x) 79 (0, 0)) → Mod (fun _ => False) w w1 → Calls Tryz.prog 80 #[ptrV q, ptrV p] w1 fun e w' => ∃ v : Nat, e = .returned (.int .i64 (v : Int)) ∧ R v w1 w') :
    Calls Tryz.prog 46 #[ptrV b, .agg (tdr x)] w fun e w' => (v1 ≠ 0 ∧ e = .returned (.int .i64 (v1 : Int)) ∧ Mod (fun _ => False) w w') ∨ (v1 = 0 ∧ v2 ≠ 0 ∧ e = .returned (.int .i64 (v2 : Int)) ∧ Mod (fun _ => False) w w') ∨ (v1 = 0 ∧ v2 = 0 ∧ ∃ (v : Nat) (w1 : World), e = .returned (.int .i64 (v : Int)) ∧ R v w1 w' ∧ Mod (fun _ => False) w w1) := by
  have HH := Lib.hid (And.intro h1 (And.intro h2 h3))
  clear h1 h2 h3
  have hmf := hmf
  go_enter Tryz.func46, Tryz.ntmps46
  go_upto_region 0 with fail
  refine wp_pass0 (C := fun _ _ _ => False) (κ := fun i => [3, 3, 0].getD i 0) [0, 1, 2] (by kernel_rfl) (by kernel_rfl) (fun _ _ d _ _ h => by cases d <;> first | exact h | exact absurd h (hP _ _ _)) ?_
  (refine TD.box (v := ?v1) (by simp only [zA, zB, zC]; rfl) rfl ?hw1 rfl rfl ?hx1 (fun p2 hp2 => ?hn1); (case hw1 => rfl); (case hx1 => (simp only [Act.eval, zD, zA, zB, zC, zE]; (try rfl))); (try simp only [Act.put, zF, zG, zH]))
  (refine TD.box (v := ?v2) (by simp only [zA, zB, zC]; rfl) rfl ?hw2 rfl rfl ?hx2 (fun p3 hp3 => ?hn2); (case hw2 => rfl); (case hx2 => (simp only [Act.eval, zD, zA, zB, zC, zE]; (try rfl))); (try simp only [Act.put, zF, zG, zH]))
  obtain ⟨ne_p3_p2, hp3⟩ := Bx.set_none hp3
  (refine TD.val0 (v := ?v3) (by simp only [zA, zB, zC]; rfl) rfl ?hw3 (fun w1 => ?hy3) ?hn3; (case hw3 => rfl); (case hy3 => (go_simp; (try with_reducible rfl))); (try simp only [Act.put, zF, zG, zH]))
  refine TD.nil (fun w1 hr => ?_)
  have kp2 := hr.box p2 _ (by first | exact Bx.set_same _ _ _ | (simp only [Bx.set_ne _ (Ne.symm ne_p3_p2), Bx.set_ne _ ne_p3_p2, Bx.set_same]; rfl)); dsimp only [Value.cells] at kp2; obtain ⟨gp2, kp2⟩ := kp2
  have kp3 := hr.box p3 _ (by first | exact Bx.set_same _ _ _ | (simp only [Bx.set_ne _ (Ne.symm ne_p3_p2), Bx.set_ne _ ne_p3_p2, Bx.set_same]; rfl)); dsimp only [Value.cells] at kp3; obtain ⟨gp3, kp3⟩ := kp3
  have m1 := hr.mod
  clear hr
  have hbs := bsSteps p2 p3
  go_upto_region 2 with fail
  obtain ⟨w2, g, hg, kg, m2, e2⟩ : ∃ w2 g, w1.heap.size = g ∧ w2.heap[g]? = some (.cells #[fn1 p2, fn2 p2 p3, fn3 p2 p3] 67 (0, 0)) ∧ Mod (fun _ => False) w1 w2 ∧ w2 = w1.alloc (.cells #[fn1 p2, fn2 p2 p3, fn3 p2 p3] 67) := ⟨_, _, rfl, heap_alloc_new _ _, (Mod.refl _ _).alloc _, rfl⟩
  rw [← e2, hg]
  have k2 := m2.at0 kp2
  have k3 := m2.at0 kp3
  have mm := m1.then0 m2
  clear e2 hg m2 kp2 kp3 hbs
  go_wp2_with fail
  go_loopw [15] (fun s15 ws => ∃ i : Nat, i ≤ 3 ∧ s15 = .int .i64 (i : Int) ∧ Hid (0 < i → v1 = 0) ∧ Hid (1 < i → v2 = 0) ∧ (i < 3 ∧ Mod (fun _ => False) w ws ∧ ws.heap[g]? = some (.cells #[fn1 p2, fn2 p2 p3, fn3 p2 p3] 67 (0, 0)) ∧ ws.heap[p2]? = some (.cells #[ptrV b] 60 (0, 0)) ∧ ws.heap[p3]? = some (.cells (tdr x) 79 (0, 0)) ∨ i = 3 ∧ Hid (∃ wx, R 0 wx ws ∧ Mod (fun _ => False) w wx))) (fun s15 _ => 3 - (intOf s15).toNat)
  case atStart => exact ⟨0, by omega, rfl, Lib.hid (by omega), Lib.hid (by omega), .inl ⟨by omega, mm, kg, k2, k3⟩⟩
  case round =>
    obtain ⟨i, hi, rfl, HV1, HV2, hcase⟩ := hrel
    clear kg k2 k3 mm
    rcases hcase with ⟨hi3, mm, kg, k2, k3⟩ | ⟨rfl, HR⟩
    · have hc : i = 0 ∨ i = 1 ∨ i = 2 := by omega
      rcases hc with rfl | rfl | rfl
      · go_wp2_with fail
        refine (HH.out.1 _ _ k2 mm).mono ?_
        rintro e w3 ⟨rfl, m3⟩
        have mm3 := mm.then0 m3
        have kg3 := m3.at0 kg
        have k23 := m3.at0 k2
        have k33 := m3.at0 k3
        by_cases hv : v1 = 0
        · have HV := Lib.hid hv
          have hne : ((v1 : Int) != 0) = false := by rw [hv]; rfl
          clear hv kg k2 k3 mm m3
          go_wp2_with fail
          go_roundw
          case rel => exact ⟨1, by omega, by go_num, Lib.hid (fun _ => HV.out), Lib.hid (by omega), .inl ⟨by omega, mm3, kg3, k23, k33⟩⟩
          case measure => simp [intOf]
        · have HV := Lib.hid hv
          have hne : ((v1 : Int) != 0) = true := by rw [bne_iff_ne]; omega
          clear hv kg k2 k3 mm m3
          go_wp2_with fail
          go_ret
          exact .inl ⟨HV.out, rfl, mm3⟩
      · have HV := Lib.hid (HV1.out (by omega))
        go_wp2_with fail
        refine (HH.out.2.1 HV.out _ _ _ k2 k3 mm).mono ?_
        rintro e w3 ⟨rfl, m3⟩
        have mm3 := mm.then0 m3
        have kg3 := m3.at0 kg
        have k23 := m3.at0 k2
        have k33 := m3.at0 k3
        by_cases hv : v2 = 0
        · have HVV := Lib.hid hv
          have hne : ((v2 : Int) != 0) = false := by rw [hv]; rfl
          clear hv kg k2 k3 mm m3
          go_wp2_with fail
          go_roundw
          case rel => exact ⟨2, by omega, by go_num, Lib.hid (fun _ => HV.out), Lib.hid (fun _ => HVV.out), .inl ⟨by omega, mm3, kg3, k23, k33⟩⟩
          case measure => simp [intOf]
        · have HVV := Lib.hid hv
          have hne : ((v2 : Int) != 0) = true := by rw [bne_iff_ne]; omega
          clear hv kg k2 k3 mm m3
          go_wp2_with fail
          go_ret
          exact .inr (.inl ⟨HV.out, HVV.out, rfl, mm3⟩)
      · have HV := Lib.hid (HV1.out (by omega))
        have HVV := Lib.hid (HV2.out (by omega))
        go_wp2_with fail
        refine (HH.out.2.2 HV.out HVV.out _ _ _ k2 k3 mm).mono ?_
        rintro e w3 ⟨v, rfl, hR⟩
        have HR := Lib.hid hR
        have HM := Lib.hid mm
        by_cases hv : v = 0
        · subst hv
          clear kg k2 k3 mm hR
          go_wp2_with fail
          go_roundw
          case rel => exact ⟨3, by omega, by go_num, Lib.hid (fun _ => HV.out), Lib.hid (fun _ => HVV.out), .inr ⟨rfl, Lib.hid ⟨_, HR.out, HM.out⟩⟩⟩
          case measure => simp [intOf]
        · have hne : ((v : Int) != 0) = true := by rw [bne_iff_ne]; omega
          clear hv kg k2 k3 mm hR
          go_wp2_with fail
          go_ret
          exact .inr (.inr ⟨HV.out, HVV.out, v, _, rfl, HR.out, HM.out⟩)
    · go_wp2_with fail
      go_ret
      obtain ⟨wx, hr, hm⟩ := HR.out
      exact .inr (.inr ⟨HV1.out (by omega), HV2.out (by omega), 0, wx, rfl, hr, hm⟩)
end Go.Proofs.YtofpnmoeimjnnaaGreat
namespace Go.Proofs.YtofpnmoeimjnnaaGreat
open Go.RowKit
open Go.ChangeMaps (setBlock)
set_option linter.unusedSimpArgs false
set_option linter.unusedVariables false
attribute [local go_sem ↓] wlKey ldKey stKey wlAcct ldAcct stAcct wlHold ldHold stHold wlHash ldHash stHash wlSig ldSig stSig wlLim ldLim stLim wlRdy ldRdy stRdy wlOut ldOut stOut wlTd ldTd stTd wlTx ldTx stTx eqKey1
attribute [local go_sem] eqMap neMap av_size av_all av_one hd_size hd_key hd_acct hd_all hd_one zKey_size zAcct_size zHold_size zHash_size zSg_size zLim_size zRdy_size zOut_size zTried_size zTx_size cell_blk frozen_blk kc_ext one_int one_bool one_ptr one_slice one_map kc_one kc_one0 kc_size sgc_size sgc_ext sgc_one0 sgc_one' rdr_size rdr_all rdr_one rdr_tx rdr_rec rdr0 rdr1 rdr41 rdr0' rdr1' rdr41' ocr_size ocr_all ocr_one ocr2 ocr3 ocr4 ocr5 ocr2' ocr3' ocr4' ocr5' tdr_size tdr_all tdr_one tdr_r tdr_o tdr_tx tdr_rec tdr0 tdr1 tdr41 tdr50 tdr51 tdr52 tdr53 tdr0' tdr1' tdr41' tdr50' tdr51' tdr52' tdr53' txr_size txr_all txr_one txr0 txr38 txr39 txr0' txr38' txr39' Value.cells
theorem verdictE_c {b s q n t : Nat} {ea : Option Addr} {en ec : Nat} {oa : Option Addr} {on oc : Nat} {f : UInt64} (x : TdR) (w : World) (kb : w.heap[b]? = some (.cells (blkC s q n t true ea en ec oa on oc f) 125 (0, 0))) :
    Calls Tryz.prog 46 #[ptrV b, .agg (tdr x)] w fun e w' => e = .returned (.int .i64 23) ∧ Mod (fun _ => False) w w' := by
  refine (verdict_g (b := b) (x := x) (w := w) (v1 := 23) (v2 := 0) (R := fun _ _ _ => True) (fun p w1 hp hm => (step1_c (e := true) w1 (hm.at0 kb) hp).mono ?_) (fun h => by cases h) (fun h => by cases h)).mono ?_
  · rintro e w' ⟨rfl, rfl⟩
    exact ⟨rfl, Mod.refl _ _⟩
  · rintro e w' (⟨_, rfl, hm⟩ | ⟨h, _⟩ | ⟨h, _⟩)
    · exact ⟨rfl, hm⟩
    · cases h
    · cases h
theorem td_at {w : World} {a : Option Addr} {l : List TdR} (h : SlAt tdr 54 w a l) {i : Nat} {x : TdR} (hx : l[i]? = some x) : ∃ g o C U fr, a = some ⟨g, o, none⟩ ∧ w.heap[g]? = some (.cells C U fr) ∧ C.extract (o + i * 54) (o + i * 54 + 54) = tdr x ∧ o + i * 54 + 54 ≤ C.size := h.block hx
theorem errC_get {l : List Nat} {i v : Nat} (h : l[i]? = some v) : (errC l)[i]? = some (.int .i64 (v : Int)) := by
  simp [errC, h]
set_option maxRecDepth 20000 in
set_option maxHeartbeats 3200000 in
theorem recordE_c {b s q n t : Nat} {ea : Option Addr} {en ec : Nat} {oa : Option Addr} {on oc : Nat} {f : UInt64} (a : Option Addr) (l : List TdR) (c : Nat) (w : World) (kb : w.heap[b]? = some (.cells (blkC s q n t true ea en ec oa on oc f) 125 (0, 0))) (hl : SlAt tdr 54 w a l) (hn : l.length ≤ 100000) :
    Calls Tryz.prog 16 #[ptrV b, .slice a l.length c] w fun e w' => ∃ g, e = .returned (.slice (some ⟨g, 0, none⟩) l.length l.length) ∧ w.heap.size ≤ g ∧ SlAt ern 1 w' (some ⟨g, 0, none⟩) (List.replicate l.length 23) ∧ Mod (fun _ => False) w w' := by
  have hmk := mkErr l.length hn
  have HL := Lib.hid hl
  have KB := Lib.hid kb
  have hbl := lt_size kb
  clear hl kb
  generalize hll : l.length = ll at *
  have HLL := Lib.hid hll
  clear hll
  go_enter Tryz.func16, Tryz.ntmps16
  go_upto_region 1 with fail
  refine wp_pass0 (C := fun _ _ _ => False) (κ := fun i => [0, 0, 3, 0].getD i 0) [0, 1, 2, 3] (by kernel_rfl) (by kernel_rfl) (fun _ _ d _ _ h => by cases d <;> first | exact h | exact absurd h (hP _ _ _)) ?_
  (refine TD.val0 (v := ?v1) (by simp only [zA, zB, zC]; rfl) rfl ?hw1 (fun w1 => ?hy1) ?hn1; (case hw1 => rfl); (case hy1 => (go_simp; (try with_reducible rfl))); (try simp only [Act.put, zF, zG, zH]))
  (refine TD.val0 (v := ?v2) (by simp only [zA, zB, zC]; rfl) rfl ?hw2 (fun w1 => ?hy2) ?hn2; (case hw2 => rfl); (case hy2 => (go_simp; (try with_reducible rfl))); (try simp only [Act.put, zF, zG, zH]))
  (refine TD.mks (by simp only [zA, zB, zC]; rfl) rfl ?hw3 rfl rfl ?hx3 ?hz3 hmk (fun p13 hp13 => ?hn3); (case hw3 => rfl); (case hx3 => (simp only [Act.eval, zD, zA, zB, zC, zE]; (try rfl))); (case hz3 => (simp only [Act.eval, zD, zA, zB, zC, zE]; (try rfl))); (try simp only [Act.put, zF, zG, zH]))
  (refine TD.val0 (v := ?v4) (by simp only [zA, zB, zC]; rfl) rfl ?hw4 (fun w1 => ?hy4) ?hn4; (case hw4 => rfl); (case hy4 => (go_simp; (try with_reducible rfl))); (try simp only [Act.put, zF, zG, zH]))
  refine TD.nil (fun w1 hr => ?_)
  have kp13 := hr.box p13 _ (by first | exact Bx.set_same _ _ _ | (simp only [Bx.set_same]; rfl)); dsimp only [Value.cells] at kp13; obtain ⟨gp13, kp13⟩ := kp13
  clear hmk
  have m1 := hr.mod
  clear hr
  have hne : b ≠ p13 := by omega
  go_wp2_with fail
  go_at_call 45
  refine (bthere_c _ (m1.at0 KB.out)).mono ?_
  rintro e w2 ⟨rfl, rfl⟩
  go_wp2_with fail
  go_loopw [7, 8, 29] (fun s7 s8 s29 ws => ∃ i : Nat, i ≤ ll ∧ s7 = .slice none 0 0 ∧ s8 = .int .u64 0 ∧ s29 = .int .i64 (i : Int) ∧ ws.heap[p13]? = some (.cells (errC (List.replicate i 23 ++ List.replicate (ll - i) 0)) 26 (0, 0)) ∧ Mod (fun i => i = p13) w1 ws) (fun _ _ s29 _ => ll - (intOf s29).toNat)
  case atStart => exact ⟨0, by omega, rfl, rfl, rfl, by simpa using kp13, Mod.refl _ _⟩
  case round =>
    obtain ⟨i, hi, rfl, rfl, rfl, kq, hm⟩ := hrel
    clear kp13
    have mm := m1.thenB hm (.inl gp13)
    by_cases hlt : i < ll
    · obtain ⟨x, hx⟩ : ∃ x, l[i]? = some x := ⟨_, List.getElem?_eq_getElem (by rw [HLL.out]; exact hlt)⟩
      obtain ⟨g, o, C, U, fr, rfl, kl, he, hle⟩ := td_at (HL.out.mod0 mm) hx
      have HX := Lib.hid hx
      clear hx
      have hs : (errC (List.replicate i 23 ++ List.replicate (ll - i) 0)).size = ll := by rw [errC_size]; simp; omega
      have hset : (errC (List.replicate i 23 ++ List.replicate (ll - i) 0)).setIfInBounds i (.int .i64 23) = errC (List.replicate (i + 1) 23 ++ List.replicate (ll - (i + 1)) 0) := by
        refine (errC_set _ i 23).trans ?_
        congr 1
        obtain ⟨d, rfl⟩ : ∃ d, ll = i + 1 + d := ⟨ll - (i + 1), by omega⟩
        rw [show i + 1 + d - i = d + 1 by omega, show i + 1 + d - (i + 1) = d by omega, List.set_append_right _ _ (by simp), List.length_replicate, Nat.sub_self, List.replicate_succ, zG, List.replicate_succ' (n := i), List.append_assoc]
        rfl
      have hget : (errC (List.replicate (i + 1) 23 ++ List.replicate (ll - (i + 1)) 0))[i]? = some (.int .i64 23) := errC_get (by rw [List.getElem?_append_left (by simp), List.getElem?_replicate, if_pos (by omega)])
      have hs2 : (errC (List.replicate (i + 1) 23 ++ List.replicate (ll - (i + 1)) 0)).size = ll := by rw [errC_size]; simp; omega
      have HE2 : ∃ E2, E2 = errC (List.replicate (i + 1) 23 ++ List.replicate (ll - (i + 1)) 0) := ⟨_, rfl⟩
      obtain ⟨E2, hE2⟩ := HE2
      obtain ⟨E, hE⟩ : ∃ E, E = errC (List.replicate i 23 ++ List.replicate (ll - i) 0) := ⟨_, rfl⟩
      rw [← hE2] at hset hget hs2
      rw [← hE] at hs hset kq
      have HEE := Lib.hid (And.intro hE hE2)
      clear hE hE2
      have HS := Lib.hid hset
      clear hset
      go_upto_region 13 with fail
      have Lkl := lt_size kl
      have Lkq := lt_size kq
      refine wp_pass0 (C := fun _ _ _ => False) (κ := fun i => [0, 0, 1, 3, 0, 4].getD i 0) [0, 1, 2, 3, 4, 5] (by kernel_rfl) (by kernel_rfl) (fun _ _ d _ _ h => by cases d <;> first | exact h | exact absurd h (hP _ _ _)) ?_
      (refine TD.val0 (v := ?v5) (by simp only [zA, zB, zC]; rfl) rfl ?hw5 (fun w1 => ?hy5) ?hn5; (case hw5 => rfl); (case hy5 => (go_simp; (try with_reducible rfl))); (try simp only [Act.put, zF, zG, zH]))
      (refine TD.val0 (v := ?v6) (by simp only [zA, zB, zC]; rfl) rfl ?hw6 (fun w1 => ?hy6) ?hn6; (case hw6 => rfl); (case hy6 => (go_simp; (try with_reducible rfl))); (try simp only [Act.put, zF, zG, zH]))
      (refine TD.load (v := ?v7) (p := ?p7) (Mod.refl _ _) (by simp only [zA, zB, zC]; rfl) rfl ?hw7 rfl ?hx7 (fun wq hSq => ?hy7) ?hn7; (case hw7 => rfl); (case hx7 => (simp only [Act.eval, zD, zA, zB, zC, zE]; (try rfl))); (case hy7 => (have klq := hSq.at kl (fun h => h); have kqq := hSq.at kq (fun h => h); go_simp; (try with_reducible rfl))); (try simp only [Act.put, zF, zG, zH]))
      (refine TD.allocB (by simp only [zA, zB, zC]; rfl) rfl ?hw8 rfl rfl alTd (fun p10 hp10 => ?hn8); (case hw8 => rfl); (try simp only [Act.put, zF, zG, zH]))
      (refine TD.val0 (v := ?v9) (by simp only [zA, zB, zC]; rfl) rfl ?hw9 (fun w1 => ?hy9) ?hn9; (case hw9 => rfl); (case hy9 => (go_simp; (try with_reducible rfl))); (try simp only [Act.put, zF, zG, zH]))
      (refine TD.storeB (d := ?d10) (T := ?T10) (y := ?y10) (p := ?p10) (b := ?b10) (v := ?v10) (by simp only [zA, zB, zC]; rfl) rfl ?hw10 ?hd10 ?hop10 ?hev10 ?hx10 ?hb10 ?htag10 (fun w1 hb1 => ?hy10) ?hn10; (case hw10 => rfl); (case hd10 => rfl); (case hop10 => rfl); (case hev10 => (simp only [Act.eval, zD, zA, zB, zC, zE]; (try rfl))); (case hx10 => (simp only [Act.eval, zD, zA, zB, zC, zE]; (try rfl))); (case hb10 => first | exact Bx.set_same _ _ _ | (simp only [Bx.set_same]; rfl)); (case hy10 => (go_simp; (try first | with_reducible rfl | (rw [setCell_blk hb1]; rfl)))); (try simp only [Act.put, zF, zG, zH]))
      refine TD.nil (fun w3 hr => ?_)
      replace kl := hr.mod.at kl (fun h => h)
      replace kq := hr.mod.at kq (fun h => h)
      have kp10 := hr.box p10 _ (by first | exact Bx.set_same _ _ _ | (simp only [Bx.set_same]; rfl)); dsimp only [Value.cells] at kp10; obtain ⟨gp10, kp10⟩ := kp10
      have hm3 := hm.then0 hr.mod
      clear hr
      go_wp2_with fail
      go_at_call 46
      refine (verdictE_c x _ ((m1.thenB hm3 (.inl gp13)).at0 KB.out)).mono ?_
      rintro e w4 ⟨rfl, m4⟩
      have hm4 := hm3.then0 m4
      have kq := m4.at0 kq
      clear kp10 kl he m4
      go_upto_region 15 with fail
      rw [setCell_blk kq, HS.out]
      obtain ⟨w5, kq5, m5, e5⟩ : ∃ w5, w5.heap[p13]? = some (.cells E2 26 (0, 0)) ∧ Mod (fun i => i = p13) w4 w5 ∧ w5 = setBlock w4 p13 (.cells E2 26 (0, 0)) := ⟨_, heap_setBlock _ _ (lt_size kq), mod_set _ _ _, rfl⟩
      rw [← e5]
      have hm5 := hm4.trans m5
      clear e5 m5 kq hs hs2
      have Lkq5 := lt_size kq5
      refine wp_pass0 (C := fun _ _ _ => False) (κ := fun i => [0, 0, 0, 1, 0].getD i 0) [0, 1, 2, 3, 4] (by kernel_rfl) (by kernel_rfl) (fun _ _ d _ _ h => by cases d <;> first | exact h | exact absurd h (hP _ _ _)) ?_
      (refine TD.val0 (v := ?v11) (by simp only [zA, zB, zC]; rfl) rfl ?hw11 (fun w1 => ?hy11) ?hn11; (case hw11 => rfl); (case hy11 => (go_simp; (try with_reducible rfl))); (try simp only [Act.put, zF, zG, zH]))
      (refine TD.val0 (v := ?v12) (by simp only [zA, zB, zC]; rfl) rfl ?hw12 (fun w1 => ?hy12) ?hn12; (case hw12 => rfl); (case hy12 => (go_simp; (try with_reducible rfl))); (try simp only [Act.put, zF, zG, zH]))
      (refine TD.val0 (v := ?v13) (by simp only [zA, zB, zC]; rfl) rfl ?hw13 (fun w1 => ?hy13) ?hn13; (case hw13 => rfl); (case hy13 => (go_simp; (try with_reducible rfl))); (try simp only [Act.put, zF, zG, zH]))
      (refine TD.load (v := ?v14) (p := ?p14) (Mod.refl _ _) (by simp only [zA, zB, zC]; rfl) rfl ?hw14 rfl ?hx14 (fun wq hSq => ?hy14) ?hn14; (case hw14 => rfl); (case hx14 => (simp only [Act.eval, zD, zA, zB, zC, zE]; (try rfl))); (case hy14 => (have kq5q := hSq.at kq5 (fun h => h); go_simp; (try with_reducible rfl))); (try simp only [Act.put, zF, zG, zH]))
      (refine TD.val0 (v := ?v15) (by simp only [zA, zB, zC]; rfl) rfl ?hw15 (fun w1 => ?hy15) ?hn15; (case hw15 => rfl); (case hy15 => (go_simp; (try with_reducible rfl))); (try simp only [Act.put, zF, zG, zH]))
      refine TD.nil (fun w6 hr => ?_)
      replace kq5 := hr.mod.at kq5 (fun h => h)
      have hm5 := hm5.then0 hr.mod
      clear hr hget
      go_wp2_with fail
      go_roundw
      case rel => exact ⟨i + 1, by omega, rfl, rfl, by go_num, by rw [← HEE.out.2]; exact kq5, hm5⟩
      case measure => simp [intOf]; omega
    · obtain rfl : i = ll := by omega
      go_wp2_with fail
      go_ret
      exact ⟨_, rfl, gp13, by have := errC_at kq; simpa using this, mm⟩
end Go.Proofs.YtofpnmoeimjnnaaGreat
namespace Go.Proofs.YtofpnmoeimjnnaaGreat
open Go.RowKit
open Go.ChangeMaps (setBlock)
set_option linter.unusedSimpArgs false
set_option linter.unusedVariables false
attribute [local go_sem ↓] wlKey ldKey stKey wlAcct ldAcct stAcct wlHold ldHold stHold wlHash ldHash stHash wlSig ldSig stSig wlLim ldLim stLim wlRdy ldRdy stRdy wlOut ldOut stOut wlTd ldTd stTd wlTx ldTx stTx eqKey1
attribute [local go_sem] eqMap neMap av_size av_all av_one hd_size hd_key hd_acct hd_all hd_one zKey_size zAcct_size zHold_size zHash_size zSg_size zLim_size zRdy_size zOut_size zTried_size zTx_size cell_blk frozen_blk kc_ext one_int one_bool one_ptr one_slice one_map kc_one kc_one0 kc_size sgc_size sgc_ext sgc_one0 sgc_one' rdr_size rdr_all rdr_one rdr_tx rdr_rec rdr0 rdr1 rdr41 rdr0' rdr1' rdr41' ocr_size ocr_all ocr_one ocr2 ocr3 ocr4 ocr5 ocr2' ocr3' ocr4' ocr5' tdr_size tdr_all tdr_one tdr_r tdr_o tdr_tx tdr_rec tdr0 tdr1 tdr41 tdr50 tdr51 tdr52 tdr53 tdr0' tdr1' tdr41' tdr50' tdr51' tdr52' tdr53' txr_size txr_all txr_one txr0 txr38 txr39 txr0' txr38' txr39' Value.cells
def zb8 : Array Value := #[.int .u8 0, .int .u8 0, .int .u8 0, .int .u8 0, .int .u8 0, .int .u8 0, .int .u8 0, .int .u8 0]
set_option maxRecDepth 20000 in
set_option maxHeartbeats 1600000 in
theorem get0_c (g : Nat) (w : World) (kg : w.heap[g]? = some (.cells zb8 5 (0, 0))) : Calls Tryz.prog 27 #[.slice (some ⟨g, 0, none⟩) 8 8, .int .i64 8] w fun e w' => e = .returned (.tuple #[.int .u64 0, .int .i64 0]) ∧ Mod (fun _ => False) w w' := by
  unfold zb8 at kg
  go_enter Tryz.func27, Tryz.ntmps27
  go_wp2_with fail
  go_loopw [4, 20] (fun s4 s20 ws => ∃ i : Nat, i ≤ 8 ∧ s4 = .int .u64 0 ∧ s20 = .int .i64 (i : Int) ∧ Mod (fun _ => False) w ws) (fun _ s20 _ => 8 - (intOf s20).toNat)
  case atStart => exact ⟨0, by omega, rfl, rfl, Mod.refl _ _⟩
  case round =>
    obtain ⟨i, hi, rfl, rfl, hm⟩ := hrel
    have kg := hm.at0 kg
    by_cases hlt : i < 8
    · have hc : i = 0 ∨ i = 1 ∨ i = 2 ∨ i = 3 ∨ i = 4 ∨ i = 5 ∨ i = 6 ∨ i = 7 := by omega
      rcases hc with rfl | rfl | rfl | rfl | rfl | rfl | rfl | rfl
      all_goals
        go_wp2_with fail
        go_roundw
        case rel => first | exact ⟨1, by omega, rfl, by go_num, hm⟩ | exact ⟨2, by omega, rfl, by go_num, hm⟩ | exact ⟨3, by omega, rfl, by go_num, hm⟩ | exact ⟨4, by omega, rfl, by go_num, hm⟩ | exact ⟨5, by omega, rfl, by go_num, hm⟩ | exact ⟨6, by omega, rfl, by go_num, hm⟩ | exact ⟨7, by omega, rfl, by go_num, hm⟩ | exact ⟨8, by omega, rfl, by go_num, hm⟩
        case measure => simp [intOf]
    · obtain rfl : i = 8 := by omega
      go_wp2_with fail
      go_ret2
      exact ⟨rfl, hm⟩
set_option maxRecDepth 20000 in
theorem decode0_c (g : Nat) (w : World) (kg : w.heap[g]? = some (.cells zb8 5 (0, 0))) : Calls Tryz.prog 7 #[.slice (some ⟨g, 0, none⟩) 8 8] w fun e w' => e = .returned (.tuple #[.slice none 0 0, .int .i64 4]) ∧ Mod (fun _ => False) w w' := by
  go_enter Tryz.func7, Tryz.ntmps7
  go_wp2_with fail
  go_at_call 27
  refine (get0_c g _ kg).mono ?_
  rintro e w1 ⟨rfl, m1⟩
  go_wp2_with fail
  go_ret2
  exact ⟨rfl, m1⟩
theorem mkBytes (n : Nat) (hn : n ≤ 1000000) (w : World) : (Instr.makeSlice 22 (.int .i64 (n : Int)) (.int .i64 (n : Int))).run Tryz.prog w = .ok (.slice (some ⟨w.heap.size, 0, none⟩) n n) (w.alloc (.cells (List.replicate n (Value.int .u8 0)).toArray 5)) := by
  obtain ⟨i0, hi, hz0, hz1, hz2⟩ := info_parts (show (Tryz.prog.info? 5).map (fun i => (i.zero, i.size, i.bytes)) = some (some (.int .u8 0), 1, 1) by kernel_rfl)
  have := run_make (P := Tryz.prog) w 22 5 i0 _ Tryz.underlying22 hi hz0 .i64 .i64 (n : Int) (n : Int) (by omega) (by omega) (by rw [hz2]; omega) (by omega)
  rw [hz1, Nat.mul_one] at this
  have hc : madeCells #[Value.int .u8 0] n = (List.replicate n (Value.int .u8 0)).toArray := by
    apply Array.toList_inj.1
    rw [toList_madeCells_one]
  simpa [Value.cells, hc] using this
theorem mkB8 (w : World) : (Instr.makeSlice 22 (.int .i64 8) (.int .i64 8)).run Tryz.prog w = .ok (.slice (some ⟨w.heap.size, 0, none⟩) 8 8) (w.alloc (.cells zb8 5)) := mkBytes 8 (by omega) w
theorem bldTd0 (w : World) : (Instr.build 79 #[]).run Tryz.prog w = .ok (.agg (tdr td0)) w := by
  refine run_build_struct (z := .agg zTried) (places := #[(0, 48), (48, 6)]) Tryz.underlying79 (fun w => by kernel_rfl) (fun w => by kernel_rfl) ?_ w
  rfl
theorem bsTd (x : TdR) (w : World) : (Instr.buildSlice 55 1 #[(0, .agg (tdr x))]).run Tryz.prog w = .ok (.slice (some ⟨w.heap.size, 0, none⟩) 1 1) (w.alloc (.cells (tdr x) 79)) := by
  obtain ⟨i0, hi, hz0, hz1, hz2⟩ := info_parts (show (Tryz.prog.info? 79).map (fun i => (i.zero, i.size, i.bytes)) = some (some (.agg zTried), 54, 296) by kernel_rfl)
  refine run_buildSlice w _ _ 1 _ _ i0 _ Tryz.underlying55 hi hz0 (by rw [hz1]; omega) (by rw [hz1]; omega) ?_
  rw [hz1]
  show Instr.fill _ _ [(0, _)] = _
  rw [fill_cons (off := 0) (n := 54) rfl (by simp [Value.cells, tdr_size]) (by simp [Value.cells, zTried_size, size_madeCells])]
  show some (wr _ 0 (tdr x).toList) = _
  rw [wr_whole (tdr x) _ (by simp [Value.cells, zTried_size, tdr_size, size_madeCells])]
theorem bsEr (v : Nat) (w : World) : (Instr.buildSlice 68 1 #[(0, .int .i64 (v : Int))]).run Tryz.prog w = .ok (.slice (some ⟨w.heap.size, 0, none⟩) 1 1) (w.alloc (.cells (errC [v]) 26)) := by kernel_rfl
end Go.Proofs.YtofpnmoeimjnnaaGreat
namespace Go.Proofs.YtofpnmoeimjnnaaGreat
open Go.RowKit
open Go.ChangeMaps (setBlock)
set_option linter.unusedSimpArgs false
set_option linter.unusedVariables false
attribute [local go_sem ↓] wlKey ldKey stKey wlAcct ldAcct stAcct wlHold ldHold stHold wlHash ldHash stHash wlSig ldSig stSig wlLim ldLim stLim wlRdy ldRdy stRdy wlOut ldOut stOut wlTd ldTd stTd wlTx ldTx stTx eqKey1
attribute [local go_sem] eqMap neMap av_size av_all av_one hd_size hd_key hd_acct hd_all hd_one zKey_size zAcct_size zHold_size zHash_size zSg_size zLim_size zRdy_size zOut_size zTried_size zTx_size cell_blk frozen_blk kc_ext one_int one_bool one_ptr one_slice one_map kc_one kc_one0 kc_size sgc_size sgc_ext sgc_one0 sgc_one' rdr_size rdr_all rdr_one rdr_tx rdr_rec rdr0 rdr1 rdr41 rdr0' rdr1' rdr41' ocr_size ocr_all ocr_one ocr2 ocr3 ocr4 ocr5 ocr2' ocr3' ocr4' ocr5' tdr_size tdr_all tdr_one tdr_r tdr_o tdr_tx tdr_rec tdr0 tdr1 tdr41 tdr50 tdr51 tdr52 tdr53 tdr0' tdr1' tdr41' tdr50' tdr51' tdr52' tdr53' txr_size txr_all txr_one txr0 txr38 txr39 txr0' txr38' txr39' Value.cells
theorem td0_at {w : World} {g : Nat} {U : TypeId} {fr : Nat × Nat} (h : w.heap[g]? = some (.cells (tdr td0) U fr)) : SlAt tdr 54 w (some ⟨g, 0, none⟩) [td0] := SlAt.one h td0 rfl (tdr_size td0)
theorem errors1_c {a : Option Addr} {g v u : Nat} {w : World} (ha : SlAt ern 1 w a [v]) (hg : w.heap[g]? = some (.cells #[.int .i64 (u : Int)] 26 (0, 0))) : Calls Tryz.prog 24 #[.slice a 1 1, .slice (some ⟨g, 0, none⟩) 1 1] w fun e w' => e = .returned (.bool (decide (v = u))) ∧ Mod (fun _ => False) w w' := by
  refine (errors_c a (some ⟨g, 0, none⟩) [v] [u] 1 1 w ha (errC_at (l := [u]) hg) (by simp) (by simp)).mono ?_
  rintro e w' ⟨rfl, hm⟩
  exact ⟨by simp, hm⟩
theorem openL_c (s q n : Nat) (w : World) : Calls Tryz.prog 19 #[ptrV s, ptrV q, ptrV n, .agg #[.int .u64 1000, .int .u64 1000, .int .u64 1000]] w fun e w' => ∃ b t m, e = .returned (.tuple #[ptrV b, .int .i64 0]) ∧ w.heap.size ≤ b ∧ w.heap.size ≤ t ∧ w.heap.size ≤ m ∧ w'.heap[b]? = some (.cells (blkC s q n t false none 0 0 none 0 0 0) 125 (0, 0)) ∧ TrAt w' t m ⟨1000, 1000, 1000⟩ 0 0 [] ∧ Mod (fun _ => False) w w' := open_c s q n ⟨1000, 1000, 1000⟩ w
set_option maxRecDepth 20000 in
set_option maxHeartbeats 3200000 in
theorem lives_c (w : World) : Calls Tryz.prog 5 #[] w fun e w' => e = .returned (.bool true) ∧ Mod (fun _ => False) w w' := by
  go_enter Tryz.func5, Tryz.ntmps5
  go_wp2_with fail
  go_at_call 20
  refine (newS_c _).mono ?_
  rintro e w1 ⟨s, sb, rfl, -, -, -, m1⟩
  go_wp2_with fail
  go_at_call 21
  refine (newQ_c _).mono ?_
  rintro e w2 ⟨q, rfl, -, -, m2⟩
  have m2 := m1.trans m2
  clear m1
  go_wp2_with fail
  go_at_call 22
  refine (newN_c _).mono ?_
  rintro e w3 ⟨n, rfl, -, -, -, m3⟩
  have m3 := m2.trans m3
  clear m2
  go_wp2_with fail
  go_at_call 19
  refine (openL_c s q n _).mono ?_
  rintro e w4 ⟨b, t, m, rfl, hb, -, -, kb, -, m4⟩
  have hb0 := Nat.le_trans m3.size hb
  have m4 := m3.trans m4
  clear m3 hb
  go_wp2_with fail
  go_at_call 23
  refine (ended_c _ kb).mono ?_
  rintro e w5 ⟨rfl, m5⟩
  have kb := m5.at0 kb
  have m5 := m4.trans m5
  clear m4
  go_wp2_with fail
  go_at_call 15
  refine (end_c _ kb).mono ?_
  rintro e w6 ⟨rfl, kb, m6⟩
  have m6 := m5.thenB m6 (.inl hb0)
  clear m5
  go_wp2_with fail
  go_at_call 15
  refine (end2_c _ kb).mono ?_
  rintro e w7 ⟨rfl, m7⟩
  have kb := m7.at0 kb
  have m7 := m6.trans m7
  clear m6
  go_wp2_with fail
  go_at_call 23
  refine (ended_c _ kb).mono ?_
  rintro e w8 ⟨rfl, m8⟩
  have kb := m8.at0 kb
  have m8 := m7.trans m8
  clear m7
  have hmk := mkB8
  go_wp2_with fail
  go_at_call 7
  refine (decode0_c w8.heap.size _ (heap_alloc_new _ _)).mono ?_
  rintro e w9 ⟨rfl, m9⟩
  have m9 := (((Mod.refl (fun _ => False) w8).alloc (.cells zb8 5)).trans m9)
  have kb := m9.at0 kb
  have m9 := m8.trans m9
  clear m8 hmk
  have hbt := bldTd0
  have hbs := bsTd td0
  go_upto_region 5 with fail
  go_wp2_with fail
  go_at_call 16
  refine (recordE_c _ [td0] 1 _ (heap_alloc_old _ _ (lt_size kb) ▸ kb) (td0_at (heap_alloc_new _ _)) (by simp)).mono ?_
  rintro e w10 ⟨g, rfl, hg, hE, m10⟩
  have m10 := ((Mod.refl (fun _ => False) w9).alloc (.cells (tdr td0) 79)).trans m10
  have kb := m10.at0 kb
  have m10 := m9.trans m10
  clear m9 hbt hbs
  have hbe := bsEr 23
  go_wp2_with fail
  go_at_call 24
  refine (errors1_c (v := 23) (u := 23) (hE.mod0 ((Mod.refl _ _).alloc _)) (heap_alloc_new _ _)).mono ?_
  rintro e w11 ⟨rfl, m11⟩
  have m11 := ((Mod.refl (fun _ => False) w10).alloc (.cells #[Value.int IntKind.i64 23] 26)).trans m11
  have kb := m11.at0 kb
  have m11 := m10.trans m11
  clear m10 hbe hE
  go_wp2_with fail
  go_at_call 25
  refine (entries0_c _ kb).mono ?_
  rintro e w12 ⟨⟨a, c, rfl⟩, m12⟩
  have m12 := m11.trans m12
  go_wp2_with fail
  go_ret
  exact ⟨rfl, m12⟩
end Go.Proofs.YtofpnmoeimjnnaaGreat
namespace Go.Proofs.YtofpnmoeimjnnaaGreat
open Go.RowKit
open Go.ChangeMaps (setBlock)
set_option linter.unusedSimpArgs false
set_option linter.unusedVariables false
attribute [local go_sem] cell_blk frozen_blk one_int one_bool one_ptr one_slice one_map Value.cells
attribute [local go_sem ↓] wlKey ldKey stKey wlTc ldTc stTc
attribute [local go_sem] kc_ext kc_one kc_one0 kc_size zKey_size one_slice txr_size txr_all txr_one txr_one'
def zBook : Array Value := #[.slice none 0 0]
theorem ldBook (w : World) (b o : Nat) : (Instr.loadAt 31 (.pointer (some ⟨b, o, none⟩))).run Tryz.prog w =
      match w.heap[b]? with
      | some (.cells cs _ _) => if o + 1 ≤ cs.size then .ok (.agg (cs.extract o (o + 1))) w else farL Tryz.prog w 31 b o
      | _ => farL Tryz.prog w 31 b o := load_rule (d := _) Tryz.underlying31 rfl (by kernel_rfl) w b o
theorem stBook (w : World) (b o : Nat) (xs : Array Value) : (Instr.storeAt 31 (.pointer (some ⟨b, o, none⟩)) (.agg xs)).run Tryz.prog w =
      match w.heap[b]? with
      | some (.cells cs U (0, 0)) =>
        if o + 1 ≤ cs.size ∧ xs.size = 1 ∧ xs.all (·.oneCell') = true then .ok () (setBlock w b (.cells (if o = 0 ∧ 1 = cs.size then xs else wr cs o xs.toList) U (0, 0))) else farS Tryz.prog w 31 b o (.agg xs)
      | _ => farS Tryz.prog w 31 b o (.agg xs) := store_rule (by kernel_rfl) w b o xs
theorem alBook (w : World) : (Instr.alloc 31 true (.tuple #[])).run Tryz.prog w = .ok (.pointer (some ⟨w.heap.size, 0, none⟩)) (w.alloc (.cells zBook 31)) :=
  run_alloc_row (z := .agg zBook) (fun w => by kernel_rfl) w
theorem alBk (w : World) : (Instr.alloc 31 true (.tuple #[])).run Tryz.prog w = .ok (.pointer (some ⟨w.heap.size, 0, none⟩)) (w.alloc (.cells #[.slice none 0 0] 31)) := alBook w
attribute [local go_sem ↓] stBook
theorem bBook0 (w : World) : (Instr.build 31 #[]).run Tryz.prog w = .ok (.agg #[.slice none 0 0]) w := by kernel_rfl
def decX (l : List UInt8) : List TxP := (decP l).getD []
def decE (l : List UInt8) : Nat := if (decP l).isSome then 0 else 4
theorem decX_B (l : List UInt8) : ∀ x ∈ decX l, TxB x := by
  unfold decX
  cases h : decP l with
  | none => exact fun x hx => by cases hx
  | some xs => exact decP_B h
theorem decA_u {w w' : World} {l : List UInt8} {e : Ending} (h : DecA w l e w') : ∃ a L, e = .returned (.tuple #[.slice a L.length L.length, i64n (decE l)]) ∧ Mod (fun _ => False) w w' ∧ SlAt txr 40 w' a L ∧ (∀ g o, a = some ⟨g, o, none⟩ → g < w'.heap.size) ∧ TxsO w.heap.size w' L ∧ L.map txP = decX l := by
  obtain ⟨hm, h⟩ := h
  unfold decX decE
  cases hd : decP l with
  | none =>
    rw [hd] at h
    exact ⟨none, [], h, hm, .inl rfl, fun g o e => (by cases e), ⟨fun x hx => (by cases hx), List.Pairwise.nil⟩, rfl⟩
  | some xs =>
    rw [hd] at h
    obtain ⟨v, L, rfl, hN, hO, hx⟩ := h
    obtain ⟨a, rfl, hs, hlt⟩ := hN.at
    exact ⟨a, L, rfl, hm, hs, fun g o e => (hlt g o e).2, hO, hx⟩
theorem rdecA_u {w w' : World} {l : List UInt8} {e : Ending} (h : RdecA w l e w') : ∃ a c L, e = .returned (.tuple #[.slice a L.length c, i64n (decE l)]) ∧ Mod (fun _ => False) w w' ∧ SlAt txr 40 w' a L ∧ (∀ r ∈ L, TxRd w' r) ∧ L.map txP = decX l ∧ L.length ≤ maxLen := by
  obtain ⟨hm, h⟩ := h
  unfold decX decE
  cases hd : decP l with
  | none =>
    rw [hd] at h
    exact ⟨none, 0, [], h, hm, .inl rfl, fun x hx => (by cases hx), rfl, Nat.zero_le _⟩
  | some xs =>
    rw [hd] at h
    obtain ⟨a, c, L, rfl, hN, hO, hx⟩ := h
    have hB := decP_B hd
    rw [← hx] at hB
    refine ⟨a, c, L, rfl, hm, so_rd txT hN, fun r hr => (hO r hr).rd (hB _ (List.mem_map_of_mem hr)), hx, ?_⟩
    obtain ⟨_, _, _, _, _, hlen⟩ := hN.at txT
    exact hlen
theorem TxsO.take {b : Nat} {w : World} {L : List RdR} (h : TxsO b w L) (i : Nat) : TxsO b w (L.take i) := ⟨fun x hx => h.1 x (List.mem_of_mem_take hx), h.2.sublist (List.take_sublist i L)⟩
def BkT (p : Nat) (Q : List Pl) (w ws : World) : Prop := ∃ Lp v, Lp.map Pg.pl = Q ∧ BookV ws p Lp v ∧ Mod (fun i => p ≤ i) w ws
set_option maxRecDepth 20000 in
set_option maxHeartbeats 6400000 in
theorem decodeLaw_c (a : Option Addr) (l : List UInt8) (c : Nat) (w : World) (hl : SlAt uc 1 w a l) (hc : l.length ≤ c) (hn : a = none → c = 0) (hin : ∀ x, a = some x → x.block < w.heap.size) : Calls Tryz.prog 3 #[.slice a l.length c] w fun e w' => e = .returned (.bool true) ∧ Mod (fun _ => False) w w' := by
  obtain ⟨n, hnl⟩ : ∃ n, l.length = n := ⟨_, rfl⟩
  by_cases hbig : 20000 < n
  · rw [hnl]
    go_enter Tryz.func3, Tryz.ntmps3
    go_wp2_with fail
    go_at_call 5
    refine (lives_c _).mono ?_
    rintro e w1 ⟨rfl, m1⟩
    go_wp2_with fail
    go_ret
    exact ⟨rfl, m1⟩
  · have hln : l.length ≤ 900000 := by omega
    have hT := TwinBytes_c a l c w hl (by omega)
    have hD := fun q w1 (kq : w1.heap[q]? = some (.cells (byC (l ++ [165, 165, 165])) 5 (0, 0))) => decode_c (a := some ⟨q, 0, none⟩) (c := l.length + 3) w1 (byC_at kq) (by omega) (by intro h; cases h) hln (by intro x h; cases h; exact lt_size kq)
    have hR := fun w2 (m : Mod (fun _ => False) w w2) => rdecode_c (c := c) w2 (hl.mod0 m) hc hn hln (by intro x h; exact Nat.lt_of_lt_of_le (hin x h) m.size)
    have hLB := fun q w2 (m : Mod (fun _ => False) w w2) hq => LeftBytes_c a l c q w2 (hl.mod0 m) hq (by omega)
    rw [hnl] at hT hD hR hLB
    rw [hnl]
    have HT := Lib.hid hT
    have HD := Lib.hid hD
    have HR := Lib.hid hR
    have HLB := Lib.hid hLB
    clear hl hc hn hin hnl hln hT hD hR hLB
    go_enter Tryz.func3, Tryz.ntmps3
    go_wp2_with fail
    go_at_call 6
    refine HT.out.mono ?_
    rintro e w1 ⟨q, rfl, hq, kq, m1⟩
    have HM1 := Lib.hid m1
    have HKQ := Lib.hid (And.intro kq hq)
    clear kq hq m1 HT
    go_wp2_with fail
    go_at_call 7
    refine (HD.out q _ HKQ.out.1).mono ?_
    rintro e w2 hP
    obtain ⟨al, L, rfl, m2, hs2, hal, hO2, hx2⟩ := decA_u hP
    have HM2 := Lib.hid (HM1.out.trans m2)
    have HS1 := Lib.hid HM1.out.size
    have HKQ2 := Lib.hid (m2.at0 HKQ.out.1)
    have HL2 := Lib.hid (And.intro hs2 (And.intro hal (And.intro hO2 hx2)))
    clear hP m2 hs2 hal hO2 hx2 HM1 HKQ HD
    go_wp2_with fail
    go_at_call 8
    refine (HR.out _ HM2.out).mono ?_
    rintro e w3 hP
    obtain ⟨am, cm, M, rfl, m3, hs3, hO3, hx3, hml⟩ := rdecA_u hP
    have hLM : M.length = L.length := by
      have h1 := congrArg List.length (hx3.trans HL2.out.2.2.2.symm)
      simpa only [List.length_map] using h1
    obtain ⟨k, hk⟩ : ∃ k, L.length = k := ⟨_, rfl⟩
    have hkb : k ≤ 9223372036854775807 := by rw [← hk, ← hLM]; exact hml
    have HK := Lib.hid (And.intro hk (hLM.trans hk))
    rw [hLM, hk]
    have HXY : Hid (∀ i x y, L[i]? = some x → M[i]? = some y → txP x = txP y) := Lib.hid (fun (i : Nat) x y hx hy => by
      have h1 := congrArg (fun z : List TxP => z[i]?) (HL2.out.2.2.2.trans hx3.symm)
      simp only [List.getElem?_map, hx, hy, Option.map_some] at h1
      exact Option.some.inj h1)
    have HB : Hid (∀ x ∈ L, TxB (txP x)) := Lib.hid (fun x hx => decX_B l _ (by rw [← HL2.out.2.2.2]; exact List.mem_map_of_mem hx))
    have HM3 := Lib.hid (HM2.out.trans m3)
    have HKQ3 := Lib.hid (m3.at0 HKQ2.out)
    have HS3 := Lib.hid (And.intro hs3 hO3)
    have HZ : Hid (Mod (fun _ => False) w2 w3) := Lib.hid m3
    obtain ⟨er, her⟩ : ∃ er, er = decE l := ⟨_, rfl⟩
    rw [← her]
    clear hP m3 hs3 hO3 hx3 hml hLM hk HM2 HKQ2 HR her
    have hbk := bBook0
    go_upto_region 6 with fail
    refine wp_pass0 (C := fun _ _ _ => False) (κ := fun i => [0, 3, 4].getD i 0) [0, 1, 2] (by kernel_rfl) (by kernel_rfl) (fun _ _ d _ _ h => by cases d <;> first | exact h | exact absurd h (hP _ _ _)) ?_
    (refine TD.build (v := ?v1) (ps := ?p1) (by simp only [zA, zB, zC]; rfl) rfl ?hw1 rfl ?hx1 (fun w1 => ?hy1) ?hn1; (case hw1 => rfl); (case hx1 => (simp only [List.map_toArray, List.map_cons, List.map_nil, Act.eval, zD, zA, zB, zC, zE]; (try rfl))); (case hy1 => (rw [hbk]; (try with_reducible rfl))); (try simp only [Act.put, zF, zG, zH]))
    (refine TD.allocB (by simp only [zA, zB, zC]; rfl) rfl ?hw2 rfl rfl alBk (fun p8 hp8 => ?hn2); (case hw2 => rfl); (try simp only [Act.put, zF, zG, zH]))
    (refine TD.storeB (d := ?d3) (T := ?T3) (y := ?y3) (p := ?p3) (b := ?b3) (v := ?v3) (by simp only [zA, zB, zC]; rfl) rfl ?hw3 ?hd3 ?hop3 ?hev3 ?hx3 ?hb3 ?htag3 (fun w1 hb1 => ?hy3) ?hn3; (case hw3 => rfl); (case hd3 => rfl); (case hop3 => rfl); (case hev3 => (simp only [Act.eval, zD, zA, zB, zC, zE]; (try rfl))); (case hx3 => (simp only [Act.eval, zD, zA, zB, zC, zE]; (try rfl))); (case hb3 => first | exact Bx.set_same _ _ _ | (simp only [Bx.set_same]; rfl)); (case hy3 => (go_simp; (try first | with_reducible rfl | (rw [setCell_blk hb1]; rfl)))); (try simp only [Act.put, zF, zG, zH]))
    refine TD.nil (fun w4 hr => ?_)
    have kp8 := hr.box p8 _ (by first | exact Bx.set_same _ _ _ | (simp only [Bx.set_same]; rfl)); dsimp only [Value.cells] at kp8; obtain ⟨gp8, kp8⟩ := kp8
    have HM4 := Lib.hid (HM3.out.trans hr.mod)
    have HZ4 := Lib.hid (HZ.out.trans hr.mod)
    have HG : Hid (w2.heap.size ≤ p8 ∧ w.heap.size ≤ p8) := Lib.hid ⟨Nat.le_trans HZ.out.size gp8, Nat.le_trans HM3.out.size gp8⟩
    have HLB2 := Lib.hid (HLB.out q w4 HM4.out (hr.mod.at0 HKQ3.out))
    have HS4 := Lib.hid (And.intro (HS3.out.1.mod0 hr.mod) (fun r hr' => (HS3.out.2 r hr').mod0 hr.mod))
    clear hr hbk HM3 HZ HS3 HKQ3 HLB
    go_wp2_with fail
    go_at_call 9
    refine HLB2.out.mono ?_
    rintro e w5 ⟨rfl, m5⟩
    replace kp8 := m5.at0 kp8
    have HM5 := Lib.hid (HM4.out.trans m5)
    have HZ5 := Lib.hid (HZ4.out.trans m5)
    have HS5 := Lib.hid (And.intro (HS4.out.1.mod0 m5) (fun r hr' => (HS4.out.2 r hr').mod0 m5))
    clear m5 HM4 HZ4 HS4 HLB2
    go_wp2_with fail
    go_loopw [9] (fun s9 ws => ∃ i : Nat, i ≤ k ∧ s9 = .int .i64 (i : Int) ∧ Hid (Mod (fun _ => False) w5 ws)) (fun s9 _ => k - (intOf s9).toNat)
    case atStart => exact ⟨0, by omega, rfl, Lib.hid (Mod.refl _ _)⟩
    case round =>
      obtain ⟨i, hi, rfl, HM⟩ := hrel
      by_cases hlt : i < k
      · --{
        have hd := decide_eq_true hlt
        obtain ⟨x, hx⟩ : ∃ x, L[i]? = some x := ⟨_, List.getElem?_eq_getElem (by have := HK.out.1; omega)⟩
        obtain ⟨y, hy⟩ : ∃ y, M[i]? = some y := ⟨_, List.getElem?_eq_getElem (by have := HK.out.2; omega)⟩
        have HX := Lib.hid (((HL2.out.2.2.1.1 x (List.mem_of_getElem? hx)).rd (HB.out x (List.mem_of_getElem? hx))).mod0 (HZ5.out.trans HM.out))
        have HY := Lib.hid ((HS5.out.2 y (List.mem_of_getElem? hy)).mod0 HM.out)
        have HXY2 := Lib.hid (HXY.out i x y hx hy)
        obtain ⟨g, o, C, U, fr, ha, kl, he, hle⟩ := (HL2.out.1.mod0 (HZ5.out.trans HM.out)).block hx
        obtain ⟨g', o', C', U', fr', ha', kl', he', hle'⟩ := (HS5.out.1.mod0 HM.out).block hy
        subst ha
        subst ha'
        clear hx hy
        go_upto_region 12 with fail
        have Lkl := lt_size kl
        have Lkl' := lt_size kl'
        refine wp_pass (C := fun _ _ v => v = .bool true) (κ := fun i => [0, 0, 0, 1, 0, 0, 0, 1, 2, 0].getD i 0) [0, 1, 2, 3, 4, 5, 6, 7, 8, 9] (by kernel_rfl) (by kernel_rfl) (fun _ _ d _ _ h => by cases d <;> first | exact h | exact absurd h (hP _ _ _)) ?_
        (refine TD.val0 (v := ?v4) (by simp only [zA, zB, zC]; rfl) rfl ?hw4 (fun w1 => ?hy4) ?hn4; (case hw4 => rfl); (case hy4 => (go_simp; (try with_reducible rfl))); (try simp only [Act.put, zF, zG, zH]))
        (refine TD.val0 (v := ?v5) (by simp only [zA, zB, zC]; rfl) rfl ?hw5 (fun w1 => ?hy5) ?hn5; (case hw5 => rfl); (case hy5 => (go_simp; (try with_reducible rfl))); (try simp only [Act.put, zF, zG, zH]))
        (refine TD.val0 (v := ?v6) (by simp only [zA, zB, zC]; rfl) rfl ?hw6 (fun w1 => ?hy6) ?hn6; (case hw6 => rfl); (case hy6 => (go_simp; (try with_reducible rfl))); (try simp only [Act.put, zF, zG, zH]))
        (refine TD.load (v := ?v7) (p := ?p7) (Mod.refl _ _) (by simp only [zA, zB, zC]; rfl) rfl ?hw7 rfl ?hx7 (fun wq hSq => ?hy7) ?hn7; (case hw7 => rfl); (case hx7 => (simp only [Act.eval, zD, zA, zB, zC, zE]; (try rfl))); (case hy7 => (have klq := hSq.at kl (fun h => h); have kl'q := hSq.at kl' (fun h => h); go_simp; (try with_reducible rfl))); (try simp only [Act.put, zF, zG, zH]))
        (refine TD.val0 (v := ?v8) (by simp only [zA, zB, zC]; rfl) rfl ?hw8 (fun w1 => ?hy8) ?hn8; (case hw8 => rfl); (case hy8 => (go_simp; (try with_reducible rfl))); (try simp only [Act.put, zF, zG, zH]))
        (refine TD.val0 (v := ?v9) (by simp only [zA, zB, zC]; rfl) rfl ?hw9 (fun w1 => ?hy9) ?hn9; (case hw9 => rfl); (case hy9 => (go_simp; (try with_reducible rfl))); (try simp only [Act.put, zF, zG, zH]))
        (refine TD.val0 (v := ?v10) (by simp only [zA, zB, zC]; rfl) rfl ?hw10 (fun w1 => ?hy10) ?hn10; (case hw10 => rfl); (case hy10 => (go_simp; (try with_reducible rfl))); (try simp only [Act.put, zF, zG, zH]))
        (refine TD.load (v := ?v11) (p := ?p11) (Mod.refl _ _) (by simp only [zA, zB, zC]; rfl) rfl ?hw11 rfl ?hx11 (fun wq hSq => ?hy11) ?hn11; (case hw11 => rfl); (case hx11 => (simp only [Act.eval, zD, zA, zB, zC, zE]; (try rfl))); (case hy11 => (have klq := hSq.at kl (fun h => h); have kl'q := hSq.at kl' (fun h => h); go_simp; (try with_reducible rfl))); (try simp only [Act.put, zF, zG, zH]))
        (refine TD.call (f := ?f12) (args := ?r12) (Mod.refl _ _) (by simp only [zA, zB, zC]; rfl) rfl ?hw12 (fun w1 => ?hy12) ?hsp12 ?hn12; (case hw12 => rfl); (case hy12 => (go_simp; (first | with_reducible rfl | (constructor <;> with_reducible rfl)))); (case hsp12 => (intro wq hSq; have klq := hSq.at kl (fun h => h); have kl'q := hSq.at kl' (fun h => h); exact (sameTx_c x y wq (HX.out.mod0 hSq) (HY.out.mod0 hSq) HXY2.out).mono (fun e w' h => ⟨_, h.1, rfl, h.2⟩))); rintro _ hC; subst hC; (try simp only [Act.put, zF, zG, zH]))
        (refine TD.val0 (v := ?v13) (by simp only [zA, zB, zC]; rfl) rfl ?hw13 (fun w1 => ?hy13) ?hn13; (case hw13 => rfl); (case hy13 => (go_simp; (try with_reducible rfl))); (try simp only [Act.put, zF, zG, zH]))
        refine TD.nil (fun w6 hr => ?_)
        replace kl := hr.mod.at kl (fun h => h)
        replace kl' := hr.mod.at kl' (fun h => h)
        have HM6 := Lib.hid (HM.out.trans hr.mod)
        clear hr he he' hle hle' kl kl'
        go_wp2_with fail
        go_roundw
        case rel => exact ⟨i + 1, by omega, by go_num, HM6⟩
        case measure => simp [intOf]; omega
      · have hd := decide_eq_false hlt
        have HZ6 := Lib.hid (HZ5.out.trans HM.out)
        have HM6 := Lib.hid (HM5.out.trans HM.out)
        replace kp8 := HM.out.at0 kp8
        have HBT : Hid (BkT p8 ((L.take 0).flatMap txPl) wr wr) := Lib.hid ⟨[], _, rfl, ⟨kp8, SlOwn.nil _ _⟩, Mod.refl _ _⟩
        clear HM HM5 HZ5 HS5 kp8 HXY
        obtain ⟨wa, rfl⟩ : ∃ wa : World, wa = wr := ⟨_, rfl⟩
        go_wp2_with fail
        clear hd hi hlt
        go_loopw [10] (fun s10 ws => ∃ i : Nat, i ≤ k ∧ i ≤ 200 ∧ s10 = .int .i64 (i : Int) ∧ Hid (BkT p8 ((L.take i).flatMap txPl) wa ws)) (fun s10 _ => k - (intOf s10).toNat)
        case atStart => exact ⟨0, by omega, by omega, rfl, HBT⟩
        case round =>
          clear HBT
          obtain ⟨i, hi, hi2, rfl, HBT⟩ := hrel
          have HLP : Hid (∀ Lp : List Pg, Lp.map Pg.pl = (L.take i).flatMap txPl → Lp.length ≤ 52428400) := Lib.hid (fun Lp e => by
            have h1 := congrArg List.length e
            rw [List.length_map] at h1
            have h2 := txsPl_len (L := L.take i) (fun x hx => HB.out x (List.mem_of_mem_take hx))
            have h3 := List.length_take_le i L
            omega)
          by_cases hlt : i < k
          · by_cases h200 : k < 200
            · --{
              obtain ⟨x, hx⟩ : ∃ x, L[i]? = some x := ⟨_, List.getElem?_eq_getElem (by have := HK.out.1; omega)⟩
              obtain ⟨Lp, v', eP, hB, hmB⟩ := HBT.out
              obtain ⟨g, o, C, U, fr, ha, kl, he, hle⟩ := ((HL2.out.1.mod0 HZ6.out).mod hmB (fun b o e hs => by have h1 := HL2.out.2.1 b o e; have h2 := HG.out.1; omega)).block hx
              have hf := (HL2.out.2.2.1.1 x (List.mem_of_getElem? hx)).f (HB.out x (List.mem_of_getElem? hx)) HG.out.1
              have HF := Lib.hid (And.intro ((hf.1.mod HZ6.out (fun _ h => h.elim)).mod hmB (fun i h => h)) hf.2)
              have HTK := Lib.hid (take_snoc hx)
              have HP := Lib.hid (And.intro eP (And.intro hB hmB))
              subst ha
              clear hx hf eP hB hmB HBT
              go_wp2_with fail
              go_at_call 11
              refine (Tx_c x p8 Lp v' (by have := HLP.out Lp HP.out.1; omega) _ HP.out.2.1 HF.out.1 HF.out.2).mono ?_
              rintro e w7 ⟨rfl, N, eN, v2, hB2, m2, _⟩
              have HBT3 : Hid (BkT p8 ((L.take (i + 1)).flatMap txPl) wa w7) := Lib.hid ⟨Lp ++ N, v2, by rw [List.map_append, HP.out.1, eN, HTK.out, List.flatMap_append]; simp, hB2, HP.out.2.2.trans (m2.mono (fun i _ h => (HP.out.2.1.lt i h).1))⟩
              clear eN hB2 m2 HP HF HTK
              go_wp2_with fail
              go_roundw
              case rel => exact ⟨i + 1, by omega, by omega, by go_num, HBT3⟩
              case measure => simp [intOf]; omega
            ·
              as_aux_lemma =>
              obtain ⟨Lp, v', eP, hB, hmB⟩ := HBT.out
              have hT := txs_pl (TxsO.take HL2.out.2.2.1 i) (fun x hx => HB.out x (List.mem_of_mem_take hx))
              have HAP := Lib.hid (Apart_c p8 Lp wr ⟨v', hB⟩ (by have := HLP.out Lp eP; omega) (fun p hp => by
                have h1 := hT.1 p.pl (by rw [← eP]; exact List.mem_map_of_mem hp)
                exact ⟨(h1.1.mod HZ6.out (fun _ _ h => h)).mod hmB (fun g hg hs => by have := (h1.2.2 g (plB_in hg)).2; have := HG.out.1; omega), h1.2.1, fun g hg => by have := (h1.2.2 g hg).2; have := HG.out.1; omega⟩) (by rw [eP]; exact hT.2))
              have HIA : Hid (∀ g, (∃ p ∈ Lp, InAd p.a g) → w.heap.size ≤ g) := Lib.hid (fun g ⟨p, hp, hg⟩ => Nat.le_trans HS1.out ((hT.1 p.pl (by rw [← eP]; exact List.mem_map_of_mem hp)).2.2 g (plB_in (by rw [pl_a]; exact hg))).1)
              have HMB := Lib.hid hmB
              clear hT eP hB hmB HBT
              go_wp2_with fail
              go_at_call 12
              refine HAP.out.mono ?_
              rintro e w8 ⟨rfl, m8⟩
              have HM8 : Hid (Mod (fun _ => False) w w8) := Lib.hid ((HM6.out.then HMB.out (fun i h1 h2 => by have := HG.out.2; omega)).then m8 (fun i h1 h2 => by have := HIA.out i h2; omega))
              clear m8 HMB HIA HAP
              go_wp2_with fail
              go_at_call 5
              refine (lives_c _).mono ?_
              rintro e w9 ⟨rfl, m9⟩
              have HM9 := Lib.hid (HM8.out.trans m9)
              clear m9
              go_wp2_with fail
              go_ret
              exact ⟨rfl, HM9.out⟩
          ·
            as_aux_lemma =>
            obtain ⟨Lp, v', eP, hB, hmB⟩ := HBT.out
            have hT := txs_pl (TxsO.take HL2.out.2.2.1 i) (fun x hx => HB.out x (List.mem_of_mem_take hx))
            have HAP := Lib.hid (Apart_c p8 Lp wr ⟨v', hB⟩ (by have := HLP.out Lp eP; omega) (fun p hp => by
              have h1 := hT.1 p.pl (by rw [← eP]; exact List.mem_map_of_mem hp)
              exact ⟨(h1.1.mod HZ6.out (fun _ _ h => h)).mod hmB (fun g hg hs => by have := (h1.2.2 g (plB_in hg)).2; have := HG.out.1; omega), h1.2.1, fun g hg => by have := (h1.2.2 g hg).2; have := HG.out.1; omega⟩) (by rw [eP]; exact hT.2))
            have HIA : Hid (∀ g, (∃ p ∈ Lp, InAd p.a g) → w.heap.size ≤ g) := Lib.hid (fun g ⟨p, hp, hg⟩ => Nat.le_trans HS1.out ((hT.1 p.pl (by rw [← eP]; exact List.mem_map_of_mem hp)).2.2 g (plB_in (by rw [pl_a]; exact hg))).1)
            have HMB := Lib.hid hmB
            clear hT eP hB hmB HBT
            go_wp2_with fail
            go_at_call 12
            refine HAP.out.mono ?_
            rintro e w8 ⟨rfl, m8⟩
            have HM8 : Hid (Mod (fun _ => False) w w8) := Lib.hid ((HM6.out.then HMB.out (fun i h1 h2 => by have := HG.out.2; omega)).then m8 (fun i h1 h2 => by have := HIA.out i h2; omega))
            clear m8 HMB HIA HAP
            go_wp2_with fail
            go_at_call 5
            refine (lives_c _).mono ?_
            rintro e w9 ⟨rfl, m9⟩
            have HM9 := Lib.hid (HM8.out.trans m9)
            clear m9
            go_wp2_with fail
            go_ret
            exact ⟨rfl, HM9.out⟩
end Go.Proofs.YtofpnmoeimjnnaaGreat
namespace Go.Proofs.YtofpnmoeimjnnaaGreat
open Go.RowKit
open Go.ChangeMaps (setBlock)
set_option linter.unusedSimpArgs false
set_option linter.unusedVariables false
attribute [local go_sem] cell_blk frozen_blk one_int one_bool one_ptr one_slice one_map Value.cells
theorem okWide_adr {P : Program} {w : World} {r : Reach} {base : Nat} {t e : TypeId} {a : Option Addr} {n c : Nat} (ht : P.underlying t = some (.slice e)) (h : Value.okWide P w r base t (.slice a n c)) : (a = none → c = 0) ∧ n ≤ c ∧ ∀ x, a = some x → x.block < w.heap.size := by
  simp only [Value.okWide, ht, Cell.okWide] at h
  unfold Cell.ok at h
  rw [ht] at h
  cases a with
  | none =>
    cases n with
    | zero =>
      cases c with
      | zero => exact ⟨fun _ => rfl, Nat.le_refl _, fun x e => (by cases e)⟩
      | succ c => exact h.elim
    | succ n => exact h.elim
  | some x =>
    obtain ⟨h1, _, _, _, row, cells, hs, _⟩ := h
    refine ⟨fun e => (by cases e), h1, fun y e => ?_⟩
    cases e
    unfold World.shape? at hs
    split at hs
    · rename_i hk
      exact lt_size hk
    · cases hs
theorem bysC_reads {H : Type} {enc : TypeId × Value → H} : Reads enc Tryz.prog 22 (slv (α := UInt8)) (SlOk uc 1 1 (fun _ _ => True)) :=
  slice_reads Tryz.underlying22 (by kernel_rfl) (by kernel_rfl) (by omega) u8_reads 0
end Go.Proofs.YtofpnmoeimjnnaaGreat
