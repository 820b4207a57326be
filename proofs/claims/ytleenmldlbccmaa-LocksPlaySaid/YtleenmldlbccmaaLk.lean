/- The closed facts of this program that the walks over package locks use. -/
import Derived.Test.YtleenmldlbccmaaKeys
import Derived.Test.YtleenmldlbccmaaReg
import Derived.Test.YtleenmldlbccmaaProg
namespace Go.Proofs.Ytleenmldlbccmaa
open Go.RowKit
open Go.ChangeMaps (setBlock)
theorem laid : laidOutB Try.prog = true := by kernel_rfl
theorem keyIs : IsKeyT Try.prog 42 5 where
  laid := laid
  row := of_decide_eq_true (by kernel_rfl)
  at2 := by kernel_rfl
  u := Try.underlying42
  e := Try.underlying5
  cK := by kernel_rfl
  cE := by kernel_rfl
  kt := by kernel_rfl
theorem keyT : KeyT Try.prog 42 kv := keyIs.keyT
/-- A worker's spot of a key. -/
abbrev Spot := Key × Fin 64
def pv (s : Spot) : Value := sv (s.1, (s.2.val : Int))
theorem pv_inj (a b : Spot) (h : pv a = pv b) : a = b := by
  have := sv_inj h
  simp only [Prod.mk.injEq] at this
  exact Prod.ext this.1 (Fin.ext (by omega))
theorem small_wf (i : Fin 64) : (Lit.int .i64 (i.val : Int)).wf = true := by
  have := i.isLt
  simp [Lit.wf, IntKind.min, IntKind.max, IntKind.bits, IntKind.signed]
  omega
theorem spot_c : Try.prog.cellsOf 75 = 33 := by kernel_rfl
theorem int_c : Try.prog.cellsOf 3 = 1 := by kernel_rfl
theorem spot_kt : Try.prog.keyType 75 = true := by kernel_rfl
theorem spot_lits (s : Spot) (d : Nat) : ∃ l, Try.prog.keyLits (d + 3) 75 (pv s).cells.toList = some l := by
  obtain ⟨l, hl⟩ := keyIs.lits s.1 d
  have h1 : ((kc s.1).toList ++ [Value.int .i64 (s.2.val : Int)]).take 32 = (kc s.1).toList := by
    rw [List.take_append_of_le_length (by simp)]
    exact List.take_of_length_le (by simp)
  have h2 : ((kc s.1).toList ++ [Value.int .i64 (s.2.val : Int)]).drop 32 = [Value.int .i64 (s.2.val : Int)] := by
    rw [List.drop_append_of_le_length (by simp), List.drop_of_length_le (by simp)]
    rfl
  have h3 : Try.prog.keyLits (d + 2) 3 [Value.int .i64 (s.2.val : Int)] = some [.int .i64 (s.2.val : Int)] := by
    unfold Program.keyLits
    rw [Try.underlying3]
    simp [small_wf]
  unfold Program.keyLits
  rw [Try.underlying75]
  simp only [pv, sv, sc, kx, Value.cells, Array.toList_append, spot_c]
  rw [if_pos ⟨by simp, by kernel_rfl⟩]
  simp only [List.mapM_cons, List.mapM_nil, keyIs.cK, int_c, List.drop_zero, h1, hl, h2, h3, List.take_of_length_le, List.length_singleton, Nat.le_refl]
  exact ⟨_, rfl⟩
theorem spotT : KeyT Try.prog 75 pv where
  law := Maps.Keyed.of_law (deep_law_laid laid (m := 3) (by omega) (of_decide_eq_true (by kernel_rfl)) (by kernel_rfl) (by rw [Try.underlying75]))
  lit s := by
    obtain ⟨n, hn⟩ : ∃ n, Try.prog.types.size = n + 2 := ⟨Try.prog.types.size - 2, (Nat.sub_add_cancel (of_decide_eq_true (by kernel_rfl))).symm⟩
    obtain ⟨l, hl⟩ := spot_lits s n
    unfold keyOf
    rw [Try.underlying75]
    simp only [spot_kt, hn, hl]
    rw [if_pos (by simp [pv, sv, sc_size, Value.formed, Try.underlying75, spot_c])]
    exact ⟨_, rfl⟩
  inj := pv_inj
/-- The counts of a worker's locks on a key; the workers that have one: each of two ways. -/
def cv (c : Int × Int) : Value := .agg #[.int .i64 c.1, .int .i64 c.2]
def uv (c : Nat × Nat) : Value := .agg #[.int .u64 (c.1 : Int), .int .u64 (c.2 : Int)]
theorem zero_c (w : World) : (zeroValue 72).run Try.prog w = .ok (cv (0, 0)) w := by kernel_rfl
theorem zero_u (w : World) : (zeroValue 66).run Try.prog w = .ok (uv (0, 0)) w := by kernel_rfl
/-! Rows read out of blocks. -/
theorem ldKey (w : World) (b o : Nat) : (Instr.loadAt 42 (.pointer (some ⟨b, o, none⟩))).run Try.prog w =
      match w.heap[b]? with
      | some (.cells cs _ _) => if o + 32 ≤ cs.size then .ok (.agg (cs.extract o (o + 32))) w else farL Try.prog w 42 b o
      | _ => farL Try.prog w 42 b o := load_rule (d := _) Try.underlying42 rfl (by kernel_rfl) w b o
theorem ldRole (w : World) (b o : Nat) : (Instr.loadAt 44 (.pointer (some ⟨b, o, none⟩))).run Try.prog w =
      match w.heap[b]? with
      | some (.cells cs _ _) => if o + 34 ≤ cs.size then .ok (.agg (cs.extract o (o + 34))) w else farL Try.prog w 44 b o
      | _ => farL Try.prog w 44 b o := load_rule (d := _) Try.underlying44 rfl (by kernel_rfl) w b o
theorem ldSpot (w : World) (b o : Nat) : (Instr.loadAt 75 (.pointer (some ⟨b, o, none⟩))).run Try.prog w =
      match w.heap[b]? with
      | some (.cells cs _ _) => if o + 33 ≤ cs.size then .ok (.agg (cs.extract o (o + 33))) w else farL Try.prog w 75 b o
      | _ => farL Try.prog w 75 b o := load_rule (d := _) Try.underlying75 rfl (by kernel_rfl) w b o
theorem ldCounts (w : World) (b o : Nat) : (Instr.loadAt 72 (.pointer (some ⟨b, o, none⟩))).run Try.prog w =
      match w.heap[b]? with
      | some (.cells cs _ _) => if o + 2 ≤ cs.size then .ok (.agg (cs.extract o (o + 2))) w else farL Try.prog w 72 b o
      | _ => farL Try.prog w 72 b o := load_rule (d := _) Try.underlying72 rfl (by kernel_rfl) w b o
theorem ldBits (w : World) (b o : Nat) : (Instr.loadAt 66 (.pointer (some ⟨b, o, none⟩))).run Try.prog w =
      match w.heap[b]? with
      | some (.cells cs _ _) => if o + 2 ≤ cs.size then .ok (.agg (cs.extract o (o + 2))) w else farL Try.prog w 66 b o
      | _ => farL Try.prog w 66 b o := load_rule (d := _) Try.underlying66 rfl (by kernel_rfl) w b o
theorem stKey (w : World) (b o : Nat) (xs : Array Value) : (Instr.storeAt 42 (.pointer (some ⟨b, o, none⟩)) (.agg xs)).run Try.prog w =
      match w.heap[b]? with
      | some (.cells cs U (0, 0)) =>
        if o + 32 ≤ cs.size ∧ xs.size = 32 ∧ xs.all (·.oneCell') = true then .ok () (setBlock w b (.cells (if o = 0 ∧ 32 = cs.size then xs else wr cs o xs.toList) U (0, 0))) else farS Try.prog w 42 b o (.agg xs)
      | _ => farS Try.prog w 42 b o (.agg xs) := store_rule (by kernel_rfl) w b o xs
theorem stRole (w : World) (b o : Nat) (xs : Array Value) : (Instr.storeAt 44 (.pointer (some ⟨b, o, none⟩)) (.agg xs)).run Try.prog w =
      match w.heap[b]? with
      | some (.cells cs U (0, 0)) =>
        if o + 34 ≤ cs.size ∧ xs.size = 34 ∧ xs.all (·.oneCell') = true then .ok () (setBlock w b (.cells (if o = 0 ∧ 34 = cs.size then xs else wr cs o xs.toList) U (0, 0))) else farS Try.prog w 44 b o (.agg xs)
      | _ => farS Try.prog w 44 b o (.agg xs) := store_rule (by kernel_rfl) w b o xs
theorem stSpot (w : World) (b o : Nat) (xs : Array Value) : (Instr.storeAt 75 (.pointer (some ⟨b, o, none⟩)) (.agg xs)).run Try.prog w =
      match w.heap[b]? with
      | some (.cells cs U (0, 0)) =>
        if o + 33 ≤ cs.size ∧ xs.size = 33 ∧ xs.all (·.oneCell') = true then .ok () (setBlock w b (.cells (if o = 0 ∧ 33 = cs.size then xs else wr cs o xs.toList) U (0, 0))) else farS Try.prog w 75 b o (.agg xs)
      | _ => farS Try.prog w 75 b o (.agg xs) := store_rule (by kernel_rfl) w b o xs
theorem stCounts (w : World) (b o : Nat) (xs : Array Value) : (Instr.storeAt 72 (.pointer (some ⟨b, o, none⟩)) (.agg xs)).run Try.prog w =
      match w.heap[b]? with
      | some (.cells cs U (0, 0)) =>
        if o + 2 ≤ cs.size ∧ xs.size = 2 ∧ xs.all (·.oneCell') = true then .ok () (setBlock w b (.cells (if o = 0 ∧ 2 = cs.size then xs else wr cs o xs.toList) U (0, 0))) else farS Try.prog w 72 b o (.agg xs)
      | _ => farS Try.prog w 72 b o (.agg xs) := store_rule (by kernel_rfl) w b o xs
theorem stBits (w : World) (b o : Nat) (xs : Array Value) : (Instr.storeAt 66 (.pointer (some ⟨b, o, none⟩)) (.agg xs)).run Try.prog w =
      match w.heap[b]? with
      | some (.cells cs U (0, 0)) =>
        if o + 2 ≤ cs.size ∧ xs.size = 2 ∧ xs.all (·.oneCell') = true then .ok () (setBlock w b (.cells (if o = 0 ∧ 2 = cs.size then xs else wr cs o xs.toList) U (0, 0))) else farS Try.prog w 66 b o (.agg xs)
      | _ => farS Try.prog w 66 b o (.agg xs) := store_rule (by kernel_rfl) w b o xs
theorem stInt (w : World) (b o : Nat) (v : Value) (hv : v.oneCell' = true) : (Instr.storeAt 3 (.pointer (some ⟨b, o, none⟩)) v).run Try.prog w =
      match w.heap[b]? with
      | some (.cells cs U (0, 0)) => if o < cs.size then .ok () (setBlock w b (.cells (cs.setIfInBounds o v) U (0, 0))) else farS Try.prog w 3 b o v
      | _ => farS Try.prog w 3 b o v := store_one_rule (by kernel_rfl) w b o v hv
theorem stU64 (w : World) (b o : Nat) (v : Value) (hv : v.oneCell' = true) : (Instr.storeAt 35 (.pointer (some ⟨b, o, none⟩)) v).run Try.prog w =
      match w.heap[b]? with
      | some (.cells cs U (0, 0)) => if o < cs.size then .ok () (setBlock w b (.cells (cs.setIfInBounds o v) U (0, 0))) else farS Try.prog w 35 b o v
      | _ => farS Try.prog w 35 b o v := store_one_rule (by kernel_rfl) w b o v hv
theorem stBool (w : World) (b o : Nat) (v : Value) (hv : v.oneCell' = true) : (Instr.storeAt 4 (.pointer (some ⟨b, o, none⟩)) v).run Try.prog w =
      match w.heap[b]? with
      | some (.cells cs U (0, 0)) => if o < cs.size then .ok () (setBlock w b (.cells (cs.setIfInBounds o v) U (0, 0))) else farS Try.prog w 4 b o v
      | _ => farS Try.prog w 4 b o v := store_one_rule (by kernel_rfl) w b o v hv
theorem wlKey (dst : Option Tmp) (x : Operand) (ty : TypeId) (pos : String) (after : Array Edge) (g : Option (Nat × Bool)) (a : Act) (w : World) (K : Act → World → Prop) (Q : Exit → Act → World → Prop) :
    Oper.wp Try.prog { dst := dst, op := .load 42 x, type := ty, pos := pos, after := after, guard := g } a w K Q =
      match a.eval x with
      | .pointer (some ⟨b, o, none⟩) =>
        (match w.heap[b]? with
        | some (.cells cs _ _) => if o + 32 ≤ cs.size then K (a.put dst (.agg (cs.extract o (o + 32)))) w else farW Try.prog { dst := dst, op := .load 42 x, type := ty, pos := pos, after := after, guard := g } a w K Q
        | _ => farW Try.prog { dst := dst, op := .load 42 x, type := ty, pos := pos, after := after, guard := g } a w K Q)
      | _ => farW Try.prog { dst := dst, op := .load 42 x, type := ty, pos := pos, after := after, guard := g } a w K Q := wp_load_rule (d := _) Try.underlying42 rfl (by kernel_rfl) dst x ty pos after g a w K Q
theorem wlRole (dst : Option Tmp) (x : Operand) (ty : TypeId) (pos : String) (after : Array Edge) (g : Option (Nat × Bool)) (a : Act) (w : World) (K : Act → World → Prop) (Q : Exit → Act → World → Prop) :
    Oper.wp Try.prog { dst := dst, op := .load 44 x, type := ty, pos := pos, after := after, guard := g } a w K Q =
      match a.eval x with
      | .pointer (some ⟨b, o, none⟩) =>
        (match w.heap[b]? with
        | some (.cells cs _ _) => if o + 34 ≤ cs.size then K (a.put dst (.agg (cs.extract o (o + 34)))) w else farW Try.prog { dst := dst, op := .load 44 x, type := ty, pos := pos, after := after, guard := g } a w K Q
        | _ => farW Try.prog { dst := dst, op := .load 44 x, type := ty, pos := pos, after := after, guard := g } a w K Q)
      | _ => farW Try.prog { dst := dst, op := .load 44 x, type := ty, pos := pos, after := after, guard := g } a w K Q := wp_load_rule (d := _) Try.underlying44 rfl (by kernel_rfl) dst x ty pos after g a w K Q
theorem wlSpot (dst : Option Tmp) (x : Operand) (ty : TypeId) (pos : String) (after : Array Edge) (g : Option (Nat × Bool)) (a : Act) (w : World) (K : Act → World → Prop) (Q : Exit → Act → World → Prop) :
    Oper.wp Try.prog { dst := dst, op := .load 75 x, type := ty, pos := pos, after := after, guard := g } a w K Q =
      match a.eval x with
      | .pointer (some ⟨b, o, none⟩) =>
        (match w.heap[b]? with
        | some (.cells cs _ _) => if o + 33 ≤ cs.size then K (a.put dst (.agg (cs.extract o (o + 33)))) w else farW Try.prog { dst := dst, op := .load 75 x, type := ty, pos := pos, after := after, guard := g } a w K Q
        | _ => farW Try.prog { dst := dst, op := .load 75 x, type := ty, pos := pos, after := after, guard := g } a w K Q)
      | _ => farW Try.prog { dst := dst, op := .load 75 x, type := ty, pos := pos, after := after, guard := g } a w K Q := wp_load_rule (d := _) Try.underlying75 rfl (by kernel_rfl) dst x ty pos after g a w K Q
theorem wlCounts (dst : Option Tmp) (x : Operand) (ty : TypeId) (pos : String) (after : Array Edge) (g : Option (Nat × Bool)) (a : Act) (w : World) (K : Act → World → Prop) (Q : Exit → Act → World → Prop) :
    Oper.wp Try.prog { dst := dst, op := .load 72 x, type := ty, pos := pos, after := after, guard := g } a w K Q =
      match a.eval x with
      | .pointer (some ⟨b, o, none⟩) =>
        (match w.heap[b]? with
        | some (.cells cs _ _) => if o + 2 ≤ cs.size then K (a.put dst (.agg (cs.extract o (o + 2)))) w else farW Try.prog { dst := dst, op := .load 72 x, type := ty, pos := pos, after := after, guard := g } a w K Q
        | _ => farW Try.prog { dst := dst, op := .load 72 x, type := ty, pos := pos, after := after, guard := g } a w K Q)
      | _ => farW Try.prog { dst := dst, op := .load 72 x, type := ty, pos := pos, after := after, guard := g } a w K Q := wp_load_rule (d := _) Try.underlying72 rfl (by kernel_rfl) dst x ty pos after g a w K Q
theorem wlBits (dst : Option Tmp) (x : Operand) (ty : TypeId) (pos : String) (after : Array Edge) (g : Option (Nat × Bool)) (a : Act) (w : World) (K : Act → World → Prop) (Q : Exit → Act → World → Prop) :
    Oper.wp Try.prog { dst := dst, op := .load 66 x, type := ty, pos := pos, after := after, guard := g } a w K Q =
      match a.eval x with
      | .pointer (some ⟨b, o, none⟩) =>
        (match w.heap[b]? with
        | some (.cells cs _ _) => if o + 2 ≤ cs.size then K (a.put dst (.agg (cs.extract o (o + 2)))) w else farW Try.prog { dst := dst, op := .load 66 x, type := ty, pos := pos, after := after, guard := g } a w K Q
        | _ => farW Try.prog { dst := dst, op := .load 66 x, type := ty, pos := pos, after := after, guard := g } a w K Q)
      | _ => farW Try.prog { dst := dst, op := .load 66 x, type := ty, pos := pos, after := after, guard := g } a w K Q := wp_load_rule (d := _) Try.underlying66 rfl (by kernel_rfl) dst x ty pos after g a w K Q
/-! New boxes. -/
def zSpot : Array Value := (Array.replicate 32 (.int .u8 0)) ++ #[.int .i64 0]
theorem zSpot_size : zSpot.size = 33 := by simp [zSpot]
theorem alSpot (w : World) : (Instr.alloc 75 true (.tuple #[])).run Try.prog w = .ok (.pointer (some ⟨w.heap.size, 0, none⟩)) (w.alloc (.cells zSpot 75)) :=
  run_alloc_row (z := .agg zSpot) (fun w => by kernel_rfl) w
theorem alCounts (w : World) : (Instr.alloc 72 true (.tuple #[])).run Try.prog w = .ok (.pointer (some ⟨w.heap.size, 0, none⟩)) (w.alloc (.cells #[.int .i64 0, .int .i64 0] 72)) :=
  run_alloc_row (z := .agg #[.int .i64 0, .int .i64 0]) (fun w => by kernel_rfl) w
theorem alBits (w : World) : (Instr.alloc 66 true (.tuple #[])).run Try.prog w = .ok (.pointer (some ⟨w.heap.size, 0, none⟩)) (w.alloc (.cells #[.int .u64 0, .int .u64 0] 66)) :=
  run_alloc_row (z := .agg #[.int .u64 0, .int .u64 0]) (fun w => by kernel_rfl) w
def zRole : Array Value := (Array.replicate 32 (.int .u8 0)) ++ #[.bool false, .bool false]
theorem zRole_size : zRole.size = 34 := by simp [zRole]
theorem alRole (w : World) : (Instr.alloc 44 true (.tuple #[])).run Try.prog w = .ok (.pointer (some ⟨w.heap.size, 0, none⟩)) (w.alloc (.cells zRole 44)) :=
  run_alloc_row (z := .agg zRole) (fun w => by kernel_rfl) w
def zKey : Array Value := Array.replicate 32 (.int .u8 0)
theorem zKey_size : zKey.size = 32 := by simp [zKey]
theorem alKey (w : World) : (Instr.alloc 42 true (.tuple #[])).run Try.prog w = .ok (.pointer (some ⟨w.heap.size, 0, none⟩)) (w.alloc (.cells zKey 42)) :=
  run_alloc_row (z := .agg zKey) (fun w => by kernel_rfl) w
/-! '==' of rows. -/
theorem eqKey (d : Nat) (a b : Key) (w : World) : (Op.equalIn (d + 2) 42 (.agg (kc a)) (.agg (kc b))).run Try.prog w = .ok (decide (a = b)) w := keyIs.eqIn d a b w
theorem eqKey1 (a b : Key) (w : World) : (Op.equalIn 10000 42 (.agg (kc a)) (.agg (kc b))).run Try.prog w = .ok (decide (a = b)) w := keyIs.eqIn 9998 a b w
theorem eqKey2 (a b : Key) (w : World) : (Op.equalIn 9999 42 (.agg (kc a)) (.agg (kc b))).run Try.prog w = .ok (decide (a = b)) w := keyIs.eqIn 9997 a b w
theorem part2 (t : TypeId) (k : IntKind) (a b : Int) (w : World) (hu : Try.prog.underlying t = some (.int k)) : (part t #[.int k a, .int k b] 0).run Try.prog w = .ok (.int k a) w ∧ (part t #[.int k a, .int k b] 1).run Try.prog w = .ok (.int k b) w := by
  simp [part, isAgg, run_underlying hu]
theorem eqCounts (a b c d : Int) (w : World) : (Op.equalIn 10000 72 (.agg #[.int .i64 a, .int .i64 b]) (.agg #[.int .i64 c, .int .i64 d])).run Try.prog w = .ok (a == c && b == d) w := by
  obtain ⟨i, hi⟩ : ∃ i, Try.prog.info? 3 = some i := ⟨_, rfl⟩
  have p1 := part2 3 .i64 a b w Try.underlying3
  have p2 := part2 3 .i64 c d w Try.underlying3
  have hc : Try.prog.cellsOf 3 = 1 := by kernel_rfl
  rw [run_equalIn_array w 9999 _ _ Try.underlying72 hi, hc]
  simp [List.range_succ, Op.eqItems, p1, p2, run_equalIn_int _ _ _ _ _ _ _ Try.underlying3]
  by_cases h : a = c <;> by_cases h2 : b = d <;> simp [h, h2]
theorem eqBits (a b c d : Int) (w : World) : (Op.equalIn 10000 66 (.agg #[.int .u64 a, .int .u64 b]) (.agg #[.int .u64 c, .int .u64 d])).run Try.prog w = .ok (a == c && b == d) w := by
  obtain ⟨i, hi⟩ : ∃ i, Try.prog.info? 35 = some i := ⟨_, rfl⟩
  have p1 := part2 35 .u64 a b w Try.underlying35
  have p2 := part2 35 .u64 c d w Try.underlying35
  have hc : Try.prog.cellsOf 35 = 1 := by kernel_rfl
  rw [run_equalIn_array w 9999 _ _ Try.underlying66 hi, hc]
  simp [List.range_succ, Op.eqItems, p1, p2, run_equalIn_int _ _ _ _ _ _ _ Try.underlying35]
  by_cases h : a = c <;> by_cases h2 : b = d <;> simp [h, h2]
/-! Structs built. -/
theorem buildSpot (k : Key) (n : Int) (w : World) : (Instr.build 75 #[(0, .agg (kc k)), (1, .int .i64 n)]).run Try.prog w = .ok (.agg (sc k n)) w := by
  refine run_build_struct (z := .agg zSpot) (places := #[(0, 32), (32, 1)]) Try.underlying75 (fun w => by kernel_rfl) (fun w => by kernel_rfl) ?_ w
  show Instr.fill _ zSpot [(0, _), (1, _)] = _
  rw [fill_cons (off := 0) (n := 32) rfl (by simp [Value.cells]) (by rw [zSpot_size]; omega), fill_cons (off := 32) (n := 1) rfl rfl (by rw [wr_size, zSpot_size]; omega)]
  show some _ = some _
  congr 1
  apply Array.toList_inj.1
  rw [wr_list _ _ _ (by rw [wr_size, zSpot_size]; simp [Value.cells]), wr_list _ _ _ (by rw [zSpot_size]; simp [Value.cells])]
  simp [Value.cells, zSpot, sc, kx]
end Go.Proofs.Ytleenmldlbccmaa
