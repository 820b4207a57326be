/- Graphs: there, New, Len, Chain, freed. -/
import Derived.Test.YtffcnnogkpdinaaGm
namespace Go.Proofs.Ytffcnnogkpdinaa
open Go.RowKit
open Go.ChangeMaps (setBlock)
set_option linter.unusedSimpArgs false
set_option linter.unusedVariables false
attribute [local go_sem] cell_blk frozen_blk one_int one_bool one_ptr one_slice one_map Value.cells
theorem eqMap (w : World) (r : Option Nat) : (binOp .eql 52 (.map r) (.map none)).run Try.prog w = .ok (.bool r.isNone) w := run_eql_map_nil w _ _ _ _ Try.underlying52
theorem neMap (w : World) (r : Option Nat) : (binOp .neq 52 (.map r) (.map none)).run Try.prog w = .ok (.bool !r.isNone) w := run_neq_map_nil w _ _ _ _ Try.underlying52
attribute [local go_sem] eqMap neMap
set_option maxRecDepth 20000 in
theorem there_c {w : World} {g b : Nat} {y z : Value} (kh : w.heap[g]? = some (.cells #[.map (some b), y, z] 55 (0, 0))) : Calls Try.prog 23 #[ptrV g] w fun e w' => e = .returned (.bool true) ∧ w' = w := by
  go_enter Try.func23, Try.ntmps23
  go_wp2_with fail
  go_ret
  exact ⟨rfl, rfl⟩
set_option maxRecDepth 20000 in
theorem there_void {w : World} {g : Nat} {y z : Value} (kh : w.heap[g]? = some (.cells #[.map none, y, z] 55 (0, 0))) : Calls Try.prog 23 #[ptrV g] w fun e w' => e = .returned (.bool false) ∧ w' = w := by
  go_enter Try.func23, Try.ntmps23
  go_wp2_with fail
  go_ret
  exact ⟨rfl, rfl⟩
theorem there_nil (w : World) : Calls Try.prog 23 #[.pointer none] w fun e w' => e = .returned (.bool false) ∧ w' = w := by
  go_enter Try.func23, Try.ntmps23
  go_wp2_with fail
  go_ret
  exact ⟨rfl, rfl⟩
theorem size3 (w : World) (a b c : Obj) : (((w.alloc a).alloc b).alloc c).heap.size = w.heap.size + 3 := by
  show (((w.heap.push a).push b).push c).size = _
  simp
theorem GInv.nil (nd : Nat → Nr) (sp : Nat → Sr) : GInv 0 [] [] [] nd sp where
  N := .refl _
  ad := List.nodup_nil
  pts := List.Pairwise.nil
  ptu _ h := by cases h
  pub := by omega
  kl _ h := by cases h
  nxl _ h := by cases h
  nds _ h := by cases h
  kn _ h := by cases h
  sn := List.nodup_nil
  sps k := ⟨fun s h => (by cases h), fun _ => rfl⟩
  wts X x Y h := by simp at h
  nxs X x Y h := by simp at h
  nxm _ h := by cases h
set_option maxRecDepth 20000 in
set_option maxHeartbeats 1600000 in
theorem new_c (w : World) : Calls Try.prog 9 #[] w fun e w' => ∃ g, e = .returned (ptrV g) ∧ ∃ T, GAt g 0 [] T w' ∧ Mod (fun _ => False) w w' ∧ (∀ i, T i → w.heap.size ≤ i ∧ i < w'.heap.size) := by
  have hmm := @run_makeMap Try.prog
  go_enter Try.func9, Try.ntmps9
  go_wp2_with fail
  go_ret
  obtain ⟨k0, k1, k2⟩ := fresh3 w (.map #[] 0) (.map #[] 0) (.cells #[.map (some w.heap.size), .map (some (w.heap.size + 1)), .int .i64 0] 55)
  have hs : (((w.alloc (.map #[] 0)).alloc (.map #[] 0)).alloc (.cells #[.map (some w.heap.size), .map (some (w.heap.size + 1)), .int .i64 0] 55)).heap.size = w.heap.size + 3 := size3 _ _ _ _
  have m0 : Mod (fun _ => False) w (((w.alloc (.map #[] 0)).alloc (.map #[] 0)).alloc (.cells #[.map (some w.heap.size), .map (some (w.heap.size + 1)), .int .i64 0] 55)) := (((Mod.refl _ _).alloc _).alloc _).alloc _
  generalize (((w.alloc (.map #[] 0)).alloc (.map #[] 0)).alloc (.cells #[.map (some w.heap.size), .map (some (w.heap.size + 1)), .int .i64 0] 55)) = w1 at *
  generalize hb : w.heap.size = b at *
  refine ⟨b + 2, rfl, fun i => b ≤ i ∧ i < w1.heap.size, ⟨fun i => if i = b then some (b + 2, 6) else if i = b + 1 then some (b + 2, 7) else if i = b + 2 then some (b + 2, 5) else none, b, b + 1, [], [], [], fun _ => ⟨0, 0, 0, 0, .slice none 0 0, [], 0, []⟩, fun _ => ⟨none, .slice none 0 0, []⟩, ⟨k2, ⟨_, _, k0, MapIs.empty idv ptrV⟩, ⟨_, _, k1, MapIs.empty kv ptrV⟩, fun _ h => (by cases h), fun _ h => (by cases h), by simp, by simp, by simp⟩, GInv.nil _ _, rfl, fun i hi => ?_⟩, m0, fun i hi => hi⟩
  rw [hs]
  by_cases e0 : i = b
  · omega
  · by_cases e1 : i = b + 1
    · omega
    · by_cases e2 : i = b + 2
      · omega
      · simp [e0, e1, e2] at hi
set_option maxRecDepth 20000 in
set_option maxHeartbeats 1600000 in
theorem freed_c {tag : Tag} {w : World} {a : Nat} {x : Nr} (h : NdAt tag w a x) (hx : 0 < x.wt) (hx2 : x.wt ≤ 1000000000000) : Calls Try.prog 30 #[ptrV a] w fun e w' => e = .returned (.tuple #[]) ∧ w'.heap[a]? = some (.cells (nrc { x with wt := x.wt - 1 }) 66 (0, 0)) ∧ Mod (fun i => i = a) w w' := by
  have kc := h.c
  have hw : IntKind.i64.wrap ((x.wt : Int) - 1) = ((x.wt - 1 : Nat) : Int) := by
    rw [IntKind.wrap_i64]
    omega
  clear h
  go_enter Try.func30, Try.ntmps30
  go_wp2_with fail
  go_end0
  refine ⟨rfl, ?_, (Mod.refl _ _).setCell _ (fun _ => rfl)⟩
  rw [setCell_blk kc, heap_setBlock _ _ (lt_size kc)]
  rfl
section
variable {pu : Nat} {L : List An} {N : List (Int64 × Nat)} {S : List (Key × Nat)} {nd : Nat → Nr} {sp : Nat → Sr}
/-- Who has an id. -/
theorem GInv.look (I : GInv pu L N S nd sp) (hN : (N.map Prod.fst).Nodup) (id : Int64) : (lkp id N = none ∧ ∀ x ∈ L, x.id ≠ id) ∨ ∃ x ∈ L, x.id = id ∧ lkp id N = some x.a := by
  cases h : lkp id N with
  | none =>
    refine .inl ⟨rfl, fun x hx e => ?_⟩
    rw [lkp_none_iff] at h
    exact h (List.mem_map.2 ⟨(x.id, x.a), I.N.mem_iff.2 (List.mem_map.2 ⟨x, hx, rfl⟩), e⟩)
  | some b =>
    right
    obtain ⟨x, hx, e⟩ := List.mem_map.1 (I.N.mem_iff.1 (lkp_mem h))
    cases e
    exact ⟨x, hx, rfl, rfl⟩
theorem GInv.len (I : GInv pu L N S nd sp) : N.length = L.length := by simpa using I.N.length_eq
theorem GInv.ids (I : GInv pu L N S nd sp) (hN : (N.map Prod.fst).Nodup) : (L.map An.id).Nodup := by
  have := (I.N.map Prod.fst).nodup_iff.1 hN
  rwa [List.map_map] at this
end
set_option maxRecDepth 20000 in
set_option maxHeartbeats 1600000 in
theorem len_c {g q : Nat} {C : List Cn} {T : Nat → Prop} {w : World} (hA : GAt g q C T w) : Calls Try.prog 19 #[ptrV g] w fun e w' => e = .returned (.int .i64 (C.length : Int)) ∧ w' = w := by
  obtain ⟨tag, nb, sb, L, N, S, nd, sp, H, I, rfl, hO⟩ := hA
  obtain ⟨es, c, kb, M⟩ := H.kn
  have kh := H.c
  have hle : ∀ ty, (Builtin.len_ #[52] ty #[.map (some nb)]).run Try.prog w = .ok (.int .i64 N.length) w := fun ty => M.len Try.underlying52 w kb
  rw [I.len] at hle
  rw [List.length_map]
  clear H hO M I
  go_enter Try.func19, Try.ntmps19
  go_wp2_with fail
  go_at_call 23
  refine (there_c kh).mono ?_
  rintro e w2 ⟨rfl, rfl⟩
  go_wp2_with fail
  go_ret
  exact ⟨rfl, rfl⟩
set_option maxRecDepth 20000 in
set_option maxHeartbeats 1600000 in
theorem chain_c {g q : Nat} {C : List Cn} {T : Nat → Prop} {w : World} (hA : GAt g q C T w) (id : Int64) : Calls Try.prog 11 #[ptrV g, .int .i64 id.toInt] w fun e w' => w' = w ∧
    ((e = .returned (.tuple #[.int .i64 0, .int .i64 11]) ∧ ∀ x ∈ C, x.id ≠ id) ∨ ∃ x ∈ C, x.id = id ∧ e = .returned (.tuple #[.int .i64 x.ch.toInt, .int .i64 0])) := by
  obtain ⟨tag, nb, sb, L, N, S, nd, sp, H, I, rfl, hO⟩ := hA
  obtain ⟨es, c, kb, M⟩ := H.kn
  have kh := H.c
  have hlk : ∀ wq, wq.heap[nb]? = some (.map es c) → (Instr.lookup 52 (.map (some nb)) (.int .i64 id.toInt) false).run Try.prog wq = _ := fun wq hq => M.lookup idT Try.underlying52 (z := .pointer none) (fun w => by kernel_rfl) wq hq id false
  rcases I.look M.nodup id with ⟨h1, h2⟩ | ⟨x, hx, h1, h2⟩
  · have HR := Lib.hid h2
    have hl := hlk w kb
    simp only [h1, Option.map_none, Option.getD_none, Bool.false_eq_true, if_false] at hl
    clear H I hO M hlk h1 h2
    go_enter Try.func11, Try.ntmps11
    go_wp2_with fail
    go_at_call 23
    refine (there_c kh).mono ?_
    rintro e w2 ⟨rfl, rfl⟩
    go_wp2_with fail
    refine bodyPost_ret (results_tmp2 rfl _ _ _) rfl ⟨rfl, .inl ⟨rfl, fun y hy => ?_⟩⟩
    obtain ⟨z, hz, rfl⟩ := List.mem_map.1 hy
    exact HR.out z hz
  · have kx := (H.nodes _ (List.mem_map.2 ⟨x, hx, rfl⟩)).c
    have hch : (nd x.a).ch = x.ch := (I.nds x hx).2.1
    have hl := hlk w kb
    simp only [h2, Option.map_some, Option.getD_some, Bool.false_eq_true, if_false] at hl
    have HX := Lib.hid (And.intro hx h1)
    clear H I hO M hlk h1 h2 hx
    go_enter Try.func11, Try.ntmps11
    go_wp2_with fail
    go_at_call 23
    refine (there_c kh).mono ?_
    rintro e w2 ⟨rfl, rfl⟩
    go_wp2_with fail
    refine bodyPost_ret (results_tmp2 rfl _ _ _) rfl ⟨rfl, .inr ⟨x.cn, List.mem_map.2 ⟨x, HX.out.1, rfl⟩, HX.out.2, rfl⟩⟩
end Go.Proofs.Ytffcnnogkpdinaa
