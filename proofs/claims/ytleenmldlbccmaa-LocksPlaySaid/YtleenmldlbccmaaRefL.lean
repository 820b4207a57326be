/- The reference's locks: their cells, their equality, lists of them. -/
import Derived.Test.YtleenmldlbccmaaOff
import Derived.Test.YtleenmldlbccmaaHave
namespace Go.Proofs.Ytleenmldlbccmaa
open Go.RowKit
open Go.ChangeMaps (setBlock)
set_option linter.unusedSimpArgs false
set_option linter.unusedVariables false
def lkn (k : Key) (b : Bool) (n : Int) : Array Value := kx k [.bool b, .int .i64 n]
theorem lkn_size (k : Key) (b : Bool) (n : Int) : (lkn k b n).size = 34 := kx_size k _
theorem lkn_key (k : Key) (b : Bool) (n : Int) : (lkn k b n).extract 0 32 = kc k := kx_key k _
theorem lkn_all (k : Key) (b : Bool) (n : Int) : (lkn k b n).extract 0 34 = lkn k b n := kx_all k _ rfl
theorem lkn_b (k : Key) (b : Bool) (n : Int) : (lkn k b n)[32]? = some (.bool b) := kx_get k _ 0
theorem lkn_n (k : Key) (b : Bool) (n : Int) : (lkn k b n)[33]? = some (.int .i64 n) := kx_get k _ 1
theorem lkn_b' (k : Key) (b : Bool) (n : Int) (h : 32 < (lkn k b n).size) : (lkn k b n)[32] = .bool b := kx_at k _ 0 _ rfl h
theorem lkn_n' (k : Key) (b : Bool) (n : Int) (h : 33 < (lkn k b n).size) : (lkn k b n)[33] = .int .i64 n := kx_at k _ 1 _ rfl h
theorem lkn_one (k : Key) (b : Bool) (n : Int) : (lkn k b n).all (·.oneCell') 0 34 = true := all_of (lkn_size k b n) (kx_one k _ rfl)
def lkv (x : Lk) : Array Value := lkn x.1 x.2.1 (x.2.2.val : Int)
def zLock : Array Value := (Array.replicate 32 (.int .u8 0)) ++ #[.bool false, .int .i64 0]
theorem zLock_size : zLock.size = 34 := by simp [zLock]
theorem ldLock (w : World) (b o : Nat) : (Instr.loadAt 78 (.pointer (some ⟨b, o, none⟩))).run Try.prog w =
      match w.heap[b]? with
      | some (.cells cs _ _) => if o + 34 ≤ cs.size then .ok (.agg (cs.extract o (o + 34))) w else farL Try.prog w 78 b o
      | _ => farL Try.prog w 78 b o := load_rule (d := _) Try.underlying78 rfl (by kernel_rfl) w b o
theorem stLock (w : World) (b o : Nat) (xs : Array Value) : (Instr.storeAt 78 (.pointer (some ⟨b, o, none⟩)) (.agg xs)).run Try.prog w =
      match w.heap[b]? with
      | some (.cells cs U (0, 0)) =>
        if o + 34 ≤ cs.size ∧ xs.size = 34 ∧ xs.all (·.oneCell') = true then .ok () (setBlock w b (.cells (if o = 0 ∧ 34 = cs.size then xs else wr cs o xs.toList) U (0, 0))) else farS Try.prog w 78 b o (.agg xs)
      | _ => farS Try.prog w 78 b o (.agg xs) := store_rule (by kernel_rfl) w b o xs
theorem wlLock (dst : Option Tmp) (x : Operand) (ty : TypeId) (pos : String) (after : Array Edge) (g : Option (Nat × Bool)) (a : Act) (w : World) (K : Act → World → Prop) (Q : Exit → Act → World → Prop) :
    Oper.wp Try.prog { dst := dst, op := .load 78 x, type := ty, pos := pos, after := after, guard := g } a w K Q =
      (match a.eval x with
      | .pointer (some ⟨b, o, none⟩) =>
        (match w.heap[b]? with
        | some (.cells cs _ _) => if o + 34 ≤ cs.size then K (a.put dst (.agg (cs.extract o (o + 34)))) w else farW Try.prog { dst := dst, op := .load 78 x, type := ty, pos := pos, after := after, guard := g } a w K Q
        | _ => farW Try.prog { dst := dst, op := .load 78 x, type := ty, pos := pos, after := after, guard := g } a w K Q)
      | _ => farW Try.prog { dst := dst, op := .load 78 x, type := ty, pos := pos, after := after, guard := g } a w K Q) := wp_load_rule (d := _) Try.underlying78 rfl (by kernel_rfl) dst x ty pos after g a w K Q
theorem alLock (w : World) : (Instr.alloc 78 true (.tuple #[])).run Try.prog w = .ok (.pointer (some ⟨w.heap.size, 0, none⟩)) (w.alloc (.cells zLock 78)) :=
  run_alloc_row (z := .agg zLock) (fun w => by kernel_rfl) w
theorem lkv_onecell (x : Lk) : ∀ u ∈ (lkv x).toList, u.oneCell' = true := by
  intro u hu
  unfold lkv lkn kx kc at hu
  simp at hu
  rcases hu with ⟨n, _, rfl⟩ | rfl | rfl <;> rfl
theorem lockT : ElT Try.prog 38 78 lkv 34 48 where
  u := Try.underlying38
  info := by
    obtain ⟨i0, hi, hz0, hz1, hz2⟩ := info_parts (show (Try.prog.info? 78).map (fun i => (i.zero, i.size, i.bytes)) = some (some (.agg zLock), 34, 48) by kernel_rfl)
    exact ⟨i0, _, hi, hz0, hz1, hz2, zLock_size⟩
  pos := by omega
  size x := lkn_size _ _ _
  one := lkv_onecell
theorem buildLock (k : Key) (b : Bool) (n : Int) (w : World) : (Instr.build 78 #[(0, .agg (kc k)), (1, .bool b), (2, .int .i64 n)]).run Try.prog w = .ok (.agg (lkn k b n)) w := by
  refine run_build_struct (z := .agg zLock) (places := #[(0, 32), (32, 1), (33, 1)]) Try.underlying78 (fun w => by kernel_rfl) (fun w => by kernel_rfl) ?_ w
  show Instr.fill _ zLock [(0, _), (1, _), (2, _)] = _
  rw [fill_cons (off := 0) (n := 32) rfl (by simp [Value.cells]) (by rw [zLock_size]; omega), fill_cons (off := 32) (n := 1) rfl rfl (by rw [wr_size, zLock_size]; omega), fill_cons (off := 33) (n := 1) rfl rfl (by rw [wr_size, wr_size, zLock_size]; omega)]
  show some _ = some _
  congr 1
  apply Array.toList_inj.1
  rw [wr_list _ _ _ (by rw [wr_size, wr_size, zLock_size]; simp [Value.cells]), wr_list _ _ _ (by rw [wr_size, zLock_size]; simp [Value.cells]), wr_list _ _ _ (by rw [zLock_size]; simp [Value.cells])]
  have hk : (kc k).toList.length = 32 := by simp
  have t33 : (kc k).toList.take 33 = (kc k).toList := List.take_of_length_le (by omega)
  have d33 : (kc k).toList.drop 33 = [] := List.drop_of_length_le (by omega)
  have d34 : (kc k).toList.drop 34 = [] := List.drop_of_length_le (by omega)
  simp [Value.cells, zLock, lkn, kx, List.take_append, List.drop_append, t33, d33, d34]
theorem bsLock (x : Lk) (w : World) : (Instr.buildSlice 38 1 #[(0, .agg (lkv x))]).run Try.prog w = .ok (.slice (some ⟨w.heap.size, 0, none⟩) 1 1) (w.alloc (.cells (lkv x) 78)) := by
  obtain ⟨i0, z, hi, hz, hz1, hz2, hz3⟩ := lockT.info
  refine run_buildSlice w _ _ 1 _ _ i0 _ Try.underlying38 hi hz (by rw [hz1]; omega) (by rw [hz1]; omega) ?_
  rw [hz1]
  show Instr.fill _ _ [(0, Value.agg (lkv x))] = _
  rw [fill_cons (off := 0) (n := 34) rfl (show ((Value.agg (lkv x)).cells).size = 34 from lkn_size _ _ _) (by simp)]
  show some (wr _ 0 _) = _
  rw [wr_whole _ _ (by simp [Value.cells, lkv, lkn_size])]
  rfl
/-! Equality of two structs that begin with a key. -/
theorem kx_take (k : Key) (xs : List Value) : (kx k xs).toList.take 32 = (kc k).toList := by
  unfold kx
  rw [Array.toList_append, List.take_append_of_le_length (by simp)]
  exact List.take_of_length_le (by simp)
theorem kx_drop (k : Key) (xs : List Value) (j : Nat) : (kx k xs).toList.drop (32 + j) = xs.drop j := by
  unfold kx
  rw [Array.toList_append, List.drop_append, List.drop_eq_nil_of_le (by simp), List.nil_append]
  simp
theorem lits_bool (b : Bool) (d : Nat) : Try.prog.keyLits (d + 1) 4 [Value.bool b] = some [.bool b] := by
  unfold Program.keyLits
  rw [Try.underlying4]
theorem lits_int (i : Fin 64) (d : Nat) : Try.prog.keyLits (d + 1) 3 [Value.int .i64 (i.val : Int)] = some [.int .i64 (i.val : Int)] := by
  unfold Program.keyLits
  rw [Try.underlying3]
  simp [small_wf]
theorem bool_cells : Try.prog.cellsOf 4 = 1 := by kernel_rfl
theorem lock_cells : Try.prog.cellsOf 78 = 34 := by kernel_rfl
theorem role_cells : Try.prog.cellsOf 44 = 34 := by kernel_rfl
theorem lock_lits (x : Lk) (d : Nat) : ∃ l, Try.prog.keyLits (d + 3) 78 (lkv x).toList = some l := by
  obtain ⟨l, hl⟩ := keyIs.lits x.1 d
  unfold Program.keyLits
  rw [Try.underlying78]
  simp only [lkv, lkn, lock_cells]
  rw [if_pos ⟨by rw [Array.length_toList]; exact kx_size _ _, by kernel_rfl⟩]
  have h1 := kx_take x.1 [.bool x.2.1, .int .i64 (x.2.2.val : Int)]
  have h2 := kx_drop x.1 [.bool x.2.1, .int .i64 (x.2.2.val : Int)] 0
  have h3 := kx_drop x.1 [.bool x.2.1, .int .i64 (x.2.2.val : Int)] 1
  simp only [Nat.add_zero, List.drop_zero, List.drop_succ_cons] at h2 h3
  simp only [List.mapM_cons, List.mapM_nil, keyIs.cK, int_c, bool_cells, List.drop_zero, h1, hl, h2, h3, List.take_succ_cons, List.take_zero, lits_bool x.2.1 (d + 1), lits_int x.2.2 (d + 1)]
  exact ⟨_, rfl⟩
theorem role_lits (r : Role) (d : Nat) : ∃ l, Try.prog.keyLits (d + 3) 44 (rcr r).toList = some l := by
  obtain ⟨l, hl⟩ := keyIs.lits r.k d
  unfold Program.keyLits
  rw [Try.underlying44]
  simp only [rcr, rc, role_cells]
  rw [if_pos ⟨by rw [Array.length_toList]; exact kx_size _ _, by kernel_rfl⟩]
  have h1 := kx_take r.k [.bool r.s, .bool r.w]
  have h2 := kx_drop r.k [.bool r.s, .bool r.w] 0
  have h3 := kx_drop r.k [.bool r.s, .bool r.w] 1
  simp only [Nat.add_zero, List.drop_zero, List.drop_succ_cons] at h2 h3
  simp only [List.mapM_cons, List.mapM_nil, keyIs.cK, bool_cells, List.drop_zero, h1, hl, h2, h3, List.take_succ_cons, List.take_zero, lits_bool r.s (d + 1), lits_bool r.w (d + 1)]
  exact ⟨_, rfl⟩
theorem eq_struct {T : TypeId} (hk : Try.prog.keyTypeAt 3 T = true) (ht : Try.prog.tiled 3 T = true) {x y : Array Value} {lx ly : List Lit} (fx : (Value.agg x).formed Try.prog T = true) (fy : (Value.agg y).formed Try.prog T = true)
    (hx : Try.prog.keyLits 3 T x.toList = some lx) (hy : Try.prog.keyLits 3 T y.toList = some ly) (w : World) : ∃ r : Bool, (Op.equalIn 10000 T (.agg x) (.agg y)).run Try.prog w = .ok r w ∧ (r = true ↔ x = y) := by
  obtain ⟨r, hr, hiff⟩ := run_equalIn_deep (P := Try.prog) 9997 3 T hk w 3 3 (.agg x) (.agg y) lx ly fx fy hx hy
  refine ⟨r, hr, hiff.trans ⟨fun e => ?_, fun e => ?_⟩⟩
  · have h1 := cells_of_lits 3 T ht 3 _ _ hx
    have h2 := cells_of_lits 3 T ht 3 _ _ hy
    rw [e, ← h2] at h1
    exact Array.toList_inj.1 h1
  · subst e
    rw [hx] at hy
    exact Option.some.inj hy
theorem lkv_inj {x y : Lk} (h : lkv x = lkv y) : x = y := by
  simp only [lkv, lkn, kx] at h
  have h1 := congrArg Array.toList h
  simp only [Array.toList_append] at h1
  obtain ⟨h2, h3⟩ := List.append_inj h1 (by simp)
  obtain ⟨k, b, i⟩ := x
  obtain ⟨k', b', i'⟩ := y
  have e1 : k = k' := kc_inj (by simpa using congrArg List.toArray h2)
  simp only [List.cons.injEq, Value.bool.injEq, Value.int.injEq, true_and, and_true] at h3
  rw [e1, h3.1, Fin.ext (by omega : i.val = i'.val)]
theorem eqLock (x y : Lk) (w : World) : (Op.equalIn 10000 78 (.agg (lkv x)) (.agg (lkv y))).run Try.prog w = .ok (decide (x = y)) w := by
  obtain ⟨lx, hx⟩ := lock_lits x 0
  obtain ⟨ly, hy⟩ := lock_lits y 0
  have hat : Try.prog.keyTypeAt 3 78 = true := by kernel_rfl
  have hti : Try.prog.tiled 3 78 = true := by kernel_rfl
  have hf : ∀ x : Lk, (Value.agg (lkv x)).formed Try.prog 78 = true := fun x => by
    simp [Value.formed, Try.underlying78, lock_cells, lkv, lkn_size]
  obtain ⟨r, hr, hiff⟩ := eq_struct hat hti (hf x) (hf y) hx hy w
  rw [hr]
  congr 1
  rw [Bool.eq_iff_iff, hiff, decide_eq_true_eq]
  exact ⟨lkv_inj, fun e => by rw [e]⟩
theorem eqRole1 (x : Role) (w : World) : (Op.equalIn 10000 44 (.agg (rcr x)) (.agg (rcr x))).run Try.prog w = .ok true w := by
  obtain ⟨lx, hx⟩ := role_lits x 0
  have hat : Try.prog.keyTypeAt 3 44 = true := by kernel_rfl
  have hti : Try.prog.tiled 3 44 = true := by kernel_rfl
  have hf : (Value.agg (rcr x)).formed Try.prog 44 = true := by
    simp [Value.formed, Try.underlying44, role_cells, rcr, rc_size]
  obtain ⟨r, hr, hiff⟩ := eq_struct hat hti hf hf hx hx w
  rw [hr, hiff.2 rfl]
end Go.Proofs.Ytleenmldlbccmaa
