/- Blocks: what makes them, their queues, seens and trackers; and those that are not there. -/
import Derived.Test.YtofpnmoeimjnnaaSa
namespace Go.Proofs.Ytofpnmoeimjnnaa
open Go.RowKit
open Go.ChangeMaps (setBlock)
set_option linter.unusedSimpArgs false
set_option linter.unusedVariables false
attribute [local go_sem ↓] wlKey ldKey stKey wlAcct ldAcct stAcct wlHold ldHold stHold wlHash ldHash stHash wlSig ldSig stSig wlLim ldLim stLim wlRdy ldRdy stRdy wlOut ldOut stOut wlTd ldTd stTd wlTx ldTx stTx eqKey1
attribute [local go_sem] eqMap neMap av_size av_all av_one hd_size hd_key hd_acct hd_all hd_one zKey_size zAcct_size zHold_size zHash_size zSg_size zLim_size zRdy_size zOut_size zTried_size zTx_size cell_blk frozen_blk kc_ext one_int one_bool one_ptr one_slice one_map kc_one kc_one0 kc_size sgc_size sgc_ext sgc_one0 sgc_one' rdr_size rdr_all rdr_one rdr_tx rdr_rec rdr0 rdr1 rdr41 rdr0' rdr1' rdr41' ocr_size ocr_all ocr_one ocr2 ocr3 ocr4 ocr5 ocr2' ocr3' ocr4' ocr5' tdr_size tdr_all tdr_one tdr_r tdr_o tdr_tx tdr_rec tdr0 tdr1 tdr41 tdr50 tdr51 tdr52 tdr53 tdr0' tdr1' tdr41' tdr50' tdr51' tdr52' tdr53' txr_size txr_all txr_one txr0 txr38 txr39 txr0' txr38' txr39' Value.cells

/-- A tracker: its limits, what was added, and what each key has. -/
def TrAt (w : World) (t m : Nat) (L : Lim) (b s : UInt64) (l : List (Key × UInt64)) : Prop :=
  w.heap[t]? = some (.cells #[u64v L.b, u64v L.a, u64v L.s, u64v b, u64v s, .map (some m)] 181 (0, 0)) ∧ ∃ es c, w.heap[m]? = some (.map es c) ∧ MapIs kv u64v es c l
/-- A queue of hashes. -/
def QuAt (w : World) (q : Nat) (L : List Key) : Prop := ∃ (R : List Key) (nx : Nat), w.heap[q]? = some (.cells (qr R (nx : Int) (L.length : Int) 1) 136 (0, 0)) ∧ QIs R nx L
/-- A list of signatures within seens: it lies in blocks of their own, or is none. -/
def SgL (T : Nat → Prop) (w : World) (v : Value) : Prop := v = .slice none 0 0 ∨ ∃ g n c cur, v = .slice (some ⟨g, 0, none⟩) n c ∧ n ≤ c ∧ T g ∧ w.heap[g]? = some (.cells cur 111 (0, 0)) ∧ cur.size = c * 64
/-- Seens: two maps, in blocks T of their own. -/
structure SeAt (T : Nat → Prop) (w : World) (n : Nat) (l : List (Sg × Key)) : Prop where
  ex : ∃ a b es c es2 c2, ∃ m2 : List (Key × Value), w.heap[n]? = some (.cells #[.map (some a), .map (some b)] 140 (0, 0)) ∧ w.heap[a]? = some (.map es c) ∧ MapIs sgv kv es c l ∧ w.heap[b]? = some (.map es2 c2) ∧ MapIs kv id es2 c2 m2 ∧
    a ≠ b ∧ T n ∧ T a ∧ T b ∧ ∀ p ∈ m2, SgL T w p.2
theorem newQ_c (w : World) : Calls Try.prog 22 #[] w fun e w' => ∃ q, e = .returned (ptrV q) ∧ w.heap.size ≤ q ∧ QuAt w' q [] ∧ Mod (fun _ => False) w w' := by
  have hb := bldQueue
  go_enter Try.func22, Try.ntmps22
  go_upto_region 1 with fail
  refine wp_pass0 (C := fun _ _ _ => False) (κ := fun i => [0, 3, 0].getD i 0) [0, 1, 2] (by kernel_rfl) (by kernel_rfl) (fun _ _ d _ _ h => by cases d <;> first | exact h | exact absurd h (hP _ _ _)) ?_
  (refine TD.build (v := ?v1) (ps := ?p1) (by simp only [zA, zB, zC]; rfl) rfl ?hw1 rfl ?hx1 (fun w1 => ?hy1) ?hn1; (case hw1 => rfl); (case hx1 => (simp only [List.map_toArray, List.map_cons, List.map_nil, Act.eval, zD, zA, zB, zC, zE]; (try rfl))); (case hy1 => (rw [hb]; (try with_reducible rfl))); (try simp only [Act.put, zF, zG, zH]))
  (refine TD.box (v := ?v2) (by simp only [zA, zB, zC]; rfl) rfl ?hw2 rfl rfl ?hx2 (fun p2 hp2 => ?hn2); (case hw2 => rfl); (case hx2 => (simp only [Act.eval, zD, zA, zB, zC, zE]; (try rfl))); (try simp only [Act.put, zF, zG, zH]))
  (refine TD.val0 (v := ?v3) (by simp only [zA, zB, zC]; rfl) rfl ?hw3 (fun w1 => ?hy3) ?hn3; (case hw3 => rfl); (case hy3 => (go_simp; (try with_reducible rfl))); (try simp only [Act.put, zF, zG, zH]))
  refine TD.nil (fun w1 hr => ?_)
  have kp2 := hr.box p2 _ (by first | exact Bx.set_same _ _ _ | (simp only [Bx.set_same]; rfl)); dsimp only [Value.cells] at kp2; obtain ⟨gp2, kp2⟩ := kp2
  go_wp2_with fail
  go_ret
  exact ⟨_, rfl, gp2, ⟨ring0, 0, kp2, QIs.zero _ (by simp [ring0])⟩, hr.mod⟩
theorem newN_c (w : World) : Calls Try.prog 23 #[] w fun e w' => ∃ n, e = .returned (ptrV n) ∧ w.heap.size ≤ n ∧ n < w'.heap.size ∧ SeAt (fun i => w.heap.size ≤ i) w' n [] ∧ Mod (fun _ => False) w w' := by
  have hmm := @run_makeMap Try.prog
  go_enter Try.func23, Try.ntmps23
  go_wp2_with fail
  go_ret
  obtain ⟨h1, h2, h3⟩ := fresh3 w (.map #[] 0) (.map #[] 0) (.cells #[.map (some w.heap.size), .map (some (w.heap.size + 1))] 140)
  exact ⟨_, rfl, by omega, lt_size h3, ⟨w.heap.size, w.heap.size + 1, _, _, _, _, [], h3, h1, MapIs.empty sgv kv, h2, MapIs.empty kv id, by omega, by omega, by omega, by omega, fun p hp => by cases hp⟩, (((Mod.refl _ _).alloc _).alloc _).alloc _⟩
theorem newT_c (L : Lim) (w : World) : Calls Try.prog 50 #[.agg #[u64v L.b, u64v L.a, u64v L.s]] w fun e w' => ∃ t m, e = .returned (ptrV t) ∧ w.heap.size ≤ t ∧ w.heap.size ≤ m ∧ TrAt w' t m L 0 0 [] ∧ Mod (fun _ => False) w w' := by
  have hmm := @run_makeMap Try.prog
  have hb := bldTr
  go_enter Try.func50, Try.ntmps50
  go_upto_region 0 with fail
  refine wp_pass0 (C := fun _ _ _ => False) (κ := fun i => [3, 0].getD i 0) [0, 1] (by kernel_rfl) (by kernel_rfl) (fun _ _ d _ _ h => by cases d <;> first | exact h | exact absurd h (hP _ _ _)) ?_
  (refine TD.box (v := ?v4) (by simp only [zA, zB, zC]; rfl) rfl ?hw4 rfl rfl ?hx4 (fun p1 hp1 => ?hn4); (case hw4 => rfl); (case hx4 => (simp only [Act.eval, zD, zA, zB, zC, zE]; (try rfl))); (try simp only [Act.put, zF, zG, zH]))
  (refine TD.val0 (v := ?v5) (by simp only [zA, zB, zC]; rfl) rfl ?hw5 (fun w1 => ?hy5) ?hn5; (case hw5 => rfl); (case hy5 => (go_simp; (try with_reducible rfl))); (try simp only [Act.put, zF, zG, zH]))
  refine TD.nil (fun w1 hr => ?_)
  have kp1 := hr.box p1 _ (by first | exact Bx.set_same _ _ _ | (simp only [Bx.set_same]; rfl)); dsimp only [Value.cells] at kp1; obtain ⟨gp1, kp1⟩ := kp1
  have m1 := hr.mod
  have ht1 := hr.mod.size
  go_wp2_with fail
  go_ret
  obtain ⟨h1, h2⟩ := fresh2 w1 (.map #[] 0) (.cells #[u64v L.b, u64v L.a, u64v L.s, .int .u64 0, .int .u64 0, .map (some w1.heap.size)] 181)
  exact ⟨_, w1.heap.size, rfl, by omega, by omega, ⟨h2, _, _, h1, MapIs.empty kv u64v⟩, (m1.alloc _).alloc _⟩
end Go.Proofs.Ytofpnmoeimjnnaa
