/- Blocks: an outcome of one's own; lists clipped. -/
import Derived.Test.YtofpnmoeimjnnaaCl
import Derived.Test.YtofpnmoeimjnnaaBv3
namespace Go.Proofs.Ytofpnmoeimjnnaa
open Go.RowKit
open Go.ChangeMaps (setBlock)
set_option linter.unusedSimpArgs false
set_option linter.unusedVariables false
attribute [local go_sem ↓] wlKey ldKey stKey wlAcct ldAcct stAcct wlHold ldHold stHold wlHash ldHash stHash wlSig ldSig stSig wlLim ldLim stLim wlRdy ldRdy stRdy wlOut ldOut stOut wlTd ldTd stTd wlTx ldTx stTx eqKey1
attribute [local go_sem] eqMap neMap av_size av_all av_one hd_size hd_key hd_acct hd_all hd_one zKey_size zAcct_size zHold_size zHash_size zSg_size zLim_size zRdy_size zOut_size zTried_size zTx_size cell_blk frozen_blk kc_ext one_int one_bool one_ptr one_slice one_map kc_one kc_one0 kc_size sgc_size sgc_ext sgc_one0 sgc_one' rdr_size rdr_all rdr_one rdr_tx rdr_rec rdr0 rdr1 rdr41 rdr0' rdr1' rdr41' ocr_size ocr_all ocr_one ocr2 ocr3 ocr4 ocr5 ocr2' ocr3' ocr4' ocr5' tdr_size tdr_all tdr_one tdr_r tdr_o tdr_tx tdr_rec tdr0 tdr1 tdr41 tdr50 tdr51 tdr52 tdr53 tdr0' tdr1' tdr41' tdr50' tdr51' tdr52' tdr53' txr_size txr_all txr_one txr0 txr38 txr39 txr0' txr38' txr39' Value.cells
theorem bsEH (w : World) : (Instr.buildSlice 22 0 #[]).run Try.prog w = .ok (.slice (some ⟨w.heap.size, 0, none⟩) 0 0) (w.alloc (.cells #[] 155)) := by kernel_rfl
theorem eqNilH (w : World) (a : Option Addr) (n c : Nat) : (binOp .eql 22 (.slice a n c) (.slice none 0 0)).run Try.prog w = .ok (.bool a.isNone) w := by
  cases a <;> kernel_rfl
set_option maxRecDepth 20000 in
set_option maxHeartbeats 1600000 in
theorem cloneH_c {w : World} {a : Option Addr} {l : List Hold} {c : Nat} (hl : SlAt hd 66 w a l) (hlen : l.length ≤ 1000000) : Calls Try.prog 68 #[.slice a l.length c] w fun e w' => ∃ v, e = .returned v ∧ SlOwn hd 66 155 w' w.heap.size v l ∧ Mod (fun _ => False) w w' := by
  have he := eqNilH
  cases a with
  | none =>
    obtain rfl : l = [] := by
      rcases hl with h | ⟨_, _, _, _, _, h, _⟩
      · exact h
      · cases h
    go_enter Try.func68, Try.ntmps68
    go_wp2_with fail
    go_ret
    exact ⟨_, rfl, SlOwn.nil _ _, Mod.refl _ _⟩
  | some p =>
    have HL := Lib.hid hl
    have hbs := bsEH
    generalize hll : l.length = ll at *
    have HLL := Lib.hid hll
    clear hl hll
    go_enter Try.func68, Try.ntmps68
    go_upto_region 3 with fail
    refine wp_pass0 (C := fun _ _ _ => False) (κ := fun i => [3, 0, 5, 0].getD i 0) [0, 1, 2, 3] (by kernel_rfl) (by kernel_rfl) (fun _ _ d _ _ h => by cases d <;> first | exact h | exact absurd h (hP _ _ _)) ?_
    (refine TD.bslice (by simp only [zA, zB, zC]; rfl) rfl ?hw1 rfl rfl ?hx1 hbs (fun p5 hp5 => ?hn1); (case hw1 => rfl); (case hx1 => (simp only [List.map_toArray, List.map_cons, List.map_nil, Act.eval, zD, zA, zB, zC, zE]; (try rfl))); (try simp only [Act.put, zF, zG, zH]))
    (refine TD.val0 (v := ?v2) (by simp only [zA, zB, zC]; rfl) rfl ?hw2 (fun w1 => ?hy2) ?hn2; (case hw2 => rfl); (case hy2 => (go_simp; (try with_reducible rfl))); (try simp only [Act.put, zF, zG, zH]))
    refine TD.eff (by simp only [zA, zB, zC]; rfl) rfl (fun w1 hr => ?_)
    have kp5 := hr.box p5 _ (by first | exact Bx.set_same _ _ _ | (simp only [Bx.set_same]; rfl)); dsimp only [Value.cells] at kp5; obtain ⟨gp5, kp5⟩ := kp5
    have m1 := hr.mod
    clear hr
    obtain ⟨v3, w6, hap, hO6, m6, hn6⟩ := SlOwn.append holdT (c := c) (own_e (f := hd) (n := 66) gp5 kp5) (HL.out.mod0 m1) (by simp; have := HLL.out; omega) (by decide) m1.size 22
    have mF : Mod (fun _ => False) w w6 := m1.then m6 (fun i hi e => by
      have e2 : p5 = i := Option.some.inj e
      omega)
    rw [HLL.out] at hap
    have HO := Lib.hid hO6
    clear hn6 m6 hO6
    (refine eff_append (by simp only [zA, zB, zC]; rfl) ?hw4 rfl ?hx4 ?hz4 hap ?hn4; (case hw4 => rfl); (case hx4 => (simp only [Act.eval, zD, zA, zB, zC, zE]; (try rfl))); (case hz4 => (simp only [Act.eval, zD, zA, zB, zC, zE]; (try rfl))); (try simp only [Act.put, zF, zG, zH]))
    (refine TE.val0 (v := ?v5) (by simp only [zA, zB, zC]; rfl) ?hw5 (fun w1 => ?hy5) ?hn5; (case hw5 => rfl); (case hy5 => (go_simp; (try with_reducible rfl))); (try simp only [Act.put, zF, zG, zH]))
    refine TE.nil ?_
    go_wp2_with fail
    go_ret
    exact ⟨_, rfl, HO.out, mF⟩
set_option maxRecDepth 20000 in
theorem clipH_c (v2 : Value) (w : World) (n : Nat) {a : Option Addr} {c : Nat} (h : ∀ w2, (Instr.sliceAt 22 (.slice a n c) none (some (.int .i64 (n : Int))) (some (.int .i64 (n : Int)))).run Try.prog w2 = .ok v2 w2) :
    Calls Try.prog 67 #[.slice a n c] w fun e w' => e = .returned v2 ∧ w' = w := by
  go_enter Try.func67, Try.ntmps67
  go_wp2_with fail
  go_ret
  exact ⟨rfl, rfl⟩
set_option maxRecDepth 20000 in
theorem clipO_c (v2 : Value) (w : World) (n : Nat) {a : Option Addr} {c : Nat} (h : ∀ w2, (Instr.sliceAt 78 (.slice a n c) none (some (.int .i64 (n : Int))) (some (.int .i64 (n : Int)))).run Try.prog w2 = .ok v2 w2) :
    Calls Try.prog 49 #[.slice a n c] w fun e w' => e = .returned v2 ∧ w' = w := by
  go_enter Try.func49, Try.ntmps49
  go_wp2_with fail
  go_ret
  exact ⟨rfl, rfl⟩
set_option maxRecDepth 20000 in
theorem clipE_c (v2 : Value) (w : World) (n : Nat) {a : Option Addr} {c : Nat} (h : ∀ w2, (Instr.sliceAt 77 (.slice a n c) none (some (.int .i64 (n : Int))) (some (.int .i64 (n : Int)))).run Try.prog w2 = .ok v2 w2) :
    Calls Try.prog 48 #[.slice a n c] w fun e w' => e = .returned v2 ∧ w' = w := by
  go_enter Try.func48, Try.ntmps48
  go_wp2_with fail
  go_ret
  exact ⟨rfl, rfl⟩
set_option maxRecDepth 20000 in
theorem clipK_c (v2 : Value) (w : World) (n : Nat) {a : Option Addr} {c : Nat} (h : ∀ w2, (Instr.sliceAt 48 (.slice a n c) none (some (.int .i64 (n : Int))) (some (.int .i64 (n : Int)))).run Try.prog w2 = .ok v2 w2) :
    Calls Try.prog 41 #[.slice a n c] w fun e w' => e = .returned v2 ∧ w' = w := by
  go_enter Try.func41, Try.ntmps41
  go_wp2_with fail
  go_ret
  exact ⟨rfl, rfl⟩
set_option maxRecDepth 20000 in
/-- No entries: none are answered. -/
theorem entries0_c {p s q n t : Nat} {b : Bool} {oa : Option Addr} {on oc : Nat} {f : UInt64} (w : World) (kp : w.heap[p]? = some (.cells (blkC s q n t b none 0 0 oa on oc f) 80 (0, 0))) : Calls Try.prog 18 #[ptrV p] w fun e w' => (∃ a c, e = .returned (.slice a 0 c)) ∧ Mod (fun _ => False) w w' := by
  have KP := Lib.hid kp
  unfold blkC at kp
  go_enter Try.func18, Try.ntmps18
  go_wp2_with fail
  go_at_call 33
  refine (bthere_c _ KP.out).mono ?_
  rintro e w2 ⟨rfl, rfl⟩
  have hcl : ∀ w2, (Instr.sliceAt 77 (.slice none 0 0) none (some (.int .i64 ((0 : Nat) : Int))) (some (.int .i64 ((0 : Nat) : Int)))).run Try.prog w2 = .ok (.slice none 0 0) w2 := fun w2 => by kernel_rfl
  go_upto_region 4 with fail
  go_loopw [2, 13] (fun s2 s13 ws => s2 = .slice none 0 0 ∧ s13 = .int .i64 0 ∧ ws = w) (fun _ _ _ => 0)
  case atStart => exact ⟨rfl, rfl, rfl⟩
  case round =>
    obtain ⟨rfl, rfl, rfl⟩ := hrel
    go_wp2_with fail
    go_at_call 48
    refine (clipE_c (a := none) (c := 0) (.slice none 0 0) _ 0 hcl).mono ?_
    rintro e w2 ⟨rfl, rfl⟩
    go_wp2_with fail
    go_ret
    exact ⟨⟨_, _, rfl⟩, Mod.refl _ _⟩
end Go.Proofs.Ytofpnmoeimjnnaa
