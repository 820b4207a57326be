/- Blocks, their queues of hashes, their seens, their trackers: how they lie. -/
import Derived.Test.YtofpnmoeimjnnaaTrd
import Derived.Test.YtofpnmoeimjnnaaQu
import Derived.Test.YtofpnmoeimjnnaaTkp
import Derived.Test.YtofpnmoeimjnnaaTf
import Derived.Lib.Hide
namespace Go.Proofs.Ytofpnmoeimjnnaa
open Go.RowKit
open Go.ChangeMaps (setBlock)
set_option linter.unusedSimpArgs false
set_option linter.unusedVariables false
def zHash : Array Value := Array.replicate 32 (.int .u8 0)
theorem zHash_size : zHash.size = 32 := by simp [zHash]
theorem zSg_size : zSg.size = 64 := by simp [zSg]
def zLim : Array Value := #[.int .u64 0, .int .u64 0, .int .u64 0]
theorem zLim_size : zLim.size = 3 := rfl
theorem ldHash (w : World) (b o : Nat) : (Instr.loadAt 50 (.pointer (some ⟨b, o, none⟩))).run Try.prog w =
      match w.heap[b]? with
      | some (.cells cs _ _) => if o + 32 ≤ cs.size then .ok (.agg (cs.extract o (o + 32))) w else farL Try.prog w 50 b o
      | _ => farL Try.prog w 50 b o := load_rule (d := _) Try.underlying50 rfl (by kernel_rfl) w b o
theorem stHash (w : World) (b o : Nat) (xs : Array Value) : (Instr.storeAt 50 (.pointer (some ⟨b, o, none⟩)) (.agg xs)).run Try.prog w =
      match w.heap[b]? with
      | some (.cells cs U (0, 0)) =>
        if o + 32 ≤ cs.size ∧ xs.size = 32 ∧ xs.all (·.oneCell') = true then .ok () (setBlock w b (.cells (if o = 0 ∧ 32 = cs.size then xs else wr cs o xs.toList) U (0, 0))) else farS Try.prog w 50 b o (.agg xs)
      | _ => farS Try.prog w 50 b o (.agg xs) := store_rule (by kernel_rfl) w b o xs
theorem wlHash (dst : Option Tmp) (x : Operand) (ty : TypeId) (pos : String) (after : Array Edge) (g : Option (Nat × Bool)) (a : Act) (w : World) (K : Act → World → Prop) (Q : Exit → Act → World → Prop) :
    Oper.wp Try.prog { dst := dst, op := .load 50 x, type := ty, pos := pos, after := after, guard := g } a w K Q =
      (match a.eval x with
      | .pointer (some ⟨b, o, none⟩) =>
        (match w.heap[b]? with
        | some (.cells cs _ _) => if o + 32 ≤ cs.size then K (a.put dst (.agg (cs.extract o (o + 32)))) w else farW Try.prog { dst := dst, op := .load 50 x, type := ty, pos := pos, after := after, guard := g } a w K Q
        | _ => farW Try.prog { dst := dst, op := .load 50 x, type := ty, pos := pos, after := after, guard := g } a w K Q)
      | _ => farW Try.prog { dst := dst, op := .load 50 x, type := ty, pos := pos, after := after, guard := g } a w K Q) := wp_load_rule (d := _) Try.underlying50 rfl (by kernel_rfl) dst x ty pos after g a w K Q
theorem alHash (w : World) : (Instr.alloc 50 true (.tuple #[])).run Try.prog w = .ok (.pointer (some ⟨w.heap.size, 0, none⟩)) (w.alloc (.cells zHash 50)) :=
  run_alloc_row (z := .agg zHash) (fun w => by kernel_rfl) w
theorem ldSig (w : World) (b o : Nat) : (Instr.loadAt 111 (.pointer (some ⟨b, o, none⟩))).run Try.prog w =
      match w.heap[b]? with
      | some (.cells cs _ _) => if o + 64 ≤ cs.size then .ok (.agg (cs.extract o (o + 64))) w else farL Try.prog w 111 b o
      | _ => farL Try.prog w 111 b o := load_rule (d := _) Try.underlying111 rfl (by kernel_rfl) w b o
theorem stSig (w : World) (b o : Nat) (xs : Array Value) : (Instr.storeAt 111 (.pointer (some ⟨b, o, none⟩)) (.agg xs)).run Try.prog w =
      match w.heap[b]? with
      | some (.cells cs U (0, 0)) =>
        if o + 64 ≤ cs.size ∧ xs.size = 64 ∧ xs.all (·.oneCell') = true then .ok () (setBlock w b (.cells (if o = 0 ∧ 64 = cs.size then xs else wr cs o xs.toList) U (0, 0))) else farS Try.prog w 111 b o (.agg xs)
      | _ => farS Try.prog w 111 b o (.agg xs) := store_rule (by kernel_rfl) w b o xs
theorem wlSig (dst : Option Tmp) (x : Operand) (ty : TypeId) (pos : String) (after : Array Edge) (g : Option (Nat × Bool)) (a : Act) (w : World) (K : Act → World → Prop) (Q : Exit → Act → World → Prop) :
    Oper.wp Try.prog { dst := dst, op := .load 111 x, type := ty, pos := pos, after := after, guard := g } a w K Q =
      (match a.eval x with
      | .pointer (some ⟨b, o, none⟩) =>
        (match w.heap[b]? with
        | some (.cells cs _ _) => if o + 64 ≤ cs.size then K (a.put dst (.agg (cs.extract o (o + 64)))) w else farW Try.prog { dst := dst, op := .load 111 x, type := ty, pos := pos, after := after, guard := g } a w K Q
        | _ => farW Try.prog { dst := dst, op := .load 111 x, type := ty, pos := pos, after := after, guard := g } a w K Q)
      | _ => farW Try.prog { dst := dst, op := .load 111 x, type := ty, pos := pos, after := after, guard := g } a w K Q) := wp_load_rule (d := _) Try.underlying111 rfl (by kernel_rfl) dst x ty pos after g a w K Q
theorem alSig (w : World) : (Instr.alloc 111 true (.tuple #[])).run Try.prog w = .ok (.pointer (some ⟨w.heap.size, 0, none⟩)) (w.alloc (.cells zSg 111)) :=
  run_alloc_row (z := .agg zSg) (fun w => by kernel_rfl) w
theorem ldLim (w : World) (b o : Nat) : (Instr.loadAt 27 (.pointer (some ⟨b, o, none⟩))).run Try.prog w =
      match w.heap[b]? with
      | some (.cells cs _ _) => if o + 3 ≤ cs.size then .ok (.agg (cs.extract o (o + 3))) w else farL Try.prog w 27 b o
      | _ => farL Try.prog w 27 b o := load_rule (d := _) Try.underlying27 rfl (by kernel_rfl) w b o
theorem stLim (w : World) (b o : Nat) (xs : Array Value) : (Instr.storeAt 27 (.pointer (some ⟨b, o, none⟩)) (.agg xs)).run Try.prog w =
      match w.heap[b]? with
      | some (.cells cs U (0, 0)) =>
        if o + 3 ≤ cs.size ∧ xs.size = 3 ∧ xs.all (·.oneCell') = true then .ok () (setBlock w b (.cells (if o = 0 ∧ 3 = cs.size then xs else wr cs o xs.toList) U (0, 0))) else farS Try.prog w 27 b o (.agg xs)
      | _ => farS Try.prog w 27 b o (.agg xs) := store_rule (by kernel_rfl) w b o xs
theorem wlLim (dst : Option Tmp) (x : Operand) (ty : TypeId) (pos : String) (after : Array Edge) (g : Option (Nat × Bool)) (a : Act) (w : World) (K : Act → World → Prop) (Q : Exit → Act → World → Prop) :
    Oper.wp Try.prog { dst := dst, op := .load 27 x, type := ty, pos := pos, after := after, guard := g } a w K Q =
      (match a.eval x with
      | .pointer (some ⟨b, o, none⟩) =>
        (match w.heap[b]? with
        | some (.cells cs _ _) => if o + 3 ≤ cs.size then K (a.put dst (.agg (cs.extract o (o + 3)))) w else farW Try.prog { dst := dst, op := .load 27 x, type := ty, pos := pos, after := after, guard := g } a w K Q
        | _ => farW Try.prog { dst := dst, op := .load 27 x, type := ty, pos := pos, after := after, guard := g } a w K Q)
      | _ => farW Try.prog { dst := dst, op := .load 27 x, type := ty, pos := pos, after := after, guard := g } a w K Q) := wp_load_rule (d := _) Try.underlying27 rfl (by kernel_rfl) dst x ty pos after g a w K Q
theorem alLim (w : World) : (Instr.alloc 27 true (.tuple #[])).run Try.prog w = .ok (.pointer (some ⟨w.heap.size, 0, none⟩)) (w.alloc (.cells zLim 27)) :=
  run_alloc_row (z := .agg zLim) (fun w => by kernel_rfl) w
/-- A queue: its ring of hashes, where the next one goes, how many there are, and that a call made it. -/
def qr (R : List Key) (nx mn md : Int) : Array Value := (cellsOf kc R).toArray ++ #[.int .i64 nx, .int .i64 mn, .int .i64 md]
def ring0 : List Key := List.replicate 150 key0
theorem cells_len (R : List Key) : (cellsOf kc R).length = R.length * 32 := cellsOf_len (n := 32) kc_size R
theorem qr_size {R : List Key} (h : R.length = 150) (nx mn md : Int) : (qr R nx mn md).size = 4803 := by
  simp [qr, cells_len, h]
def zQueue : Array Value := qr ring0 0 0 0
theorem zQ_zero (w : World) : (zeroValue 136).run Try.prog w = .ok (.agg zQueue) w := by kernel_rfl
theorem qr_set {R : List Key} (h : R.length = 150) (nx mn md : Int) (j : Nat) (v : Value) : (qr R nx mn md).setIfInBounds (4800 + j) v = (cellsOf kc R).toArray ++ (#[.int .i64 nx, .int .i64 mn, .int .i64 md] : Array Value).setIfInBounds j v := by
  unfold qr
  rw [Array.setIfInBounds_append_right (by simp [cells_len, h])]
  congr 2
  simp [cells_len, h]
theorem qr_get {R : List Key} (h : R.length = 150) (nx mn md : Int) (j : Nat) : (qr R nx mn md)[4800 + j]? = (#[.int .i64 nx, .int .i64 mn, .int .i64 md] : Array Value)[j]? := by
  unfold qr
  rw [Array.getElem?_append_right (by simp [cells_len, h])]
  congr 1
  simp [cells_len, h]
theorem qr_ring {R : List Key} (h : R.length = 150) (nx mn md : Int) {i : Nat} {k : Key} (hk : R[i]? = some k) : (qr R nx mn md).extract (i * 32) (i * 32 + 32) = kc k := by
  obtain ⟨hi, rfl⟩ := List.getElem?_eq_some_iff.1 hk
  apply Array.toList_inj.1
  rw [Array.toList_extract]
  have e : cellsOf kc R = cellsOf kc (R.take i) ++ (cellsOf kc [R[i]] ++ cellsOf kc (R.drop (i + 1))) := by
    rw [← cellsOf_append, ← cellsOf_append, List.singleton_append, ← List.drop_eq_getElem_cons hi, List.take_append_drop]
  have l1 : (cellsOf kc (R.take i)).length = i * 32 := by rw [cells_len, List.length_take, Nat.min_eq_left (by omega)]
  have l2 : (cellsOf kc [R[i]]).length = 32 := by rw [cells_len]; simp
  show ((qr R nx mn md).toList.extract (i * 32) (i * 32 + 32)) = _
  unfold qr
  rw [Array.toList_append, e]
  simp only [List.extract, List.append_assoc]
  rw [← l1, List.drop_left, Nat.add_sub_cancel_left, ← l2, List.take_left]
  simp [cellsOf]
theorem qr_put {R : List Key} (h : R.length = 150) (nx mn md : Int) {i : Nat} (hi : i < 150) (k : Key) : wr (qr R nx mn md) (i * 32) (kc k).toList = qr (R.set i k) nx mn md := by
  apply Array.toList_inj.1
  have hkl : (kc k).toList.length = 32 := by simp
  rw [wr_list _ _ _ (by rw [hkl, qr_size h]; omega), hkl]
  have e : cellsOf kc R = cellsOf kc (R.take i) ++ (cellsOf kc [R[i]] ++ cellsOf kc (R.drop (i + 1))) := by
    rw [← cellsOf_append, ← cellsOf_append, List.singleton_append, ← List.drop_eq_getElem_cons, List.take_append_drop]
  have e2 : cellsOf kc (R.set i k) = cellsOf kc (R.take i) ++ (cellsOf kc [k] ++ cellsOf kc (R.drop (i + 1))) := by
    rw [← cellsOf_append, ← cellsOf_append, List.singleton_append, List.set_eq_take_append_cons_drop, if_pos (by omega)]
  have l1 : (cellsOf kc (R.take i)).length = i * 32 := by rw [cells_len, List.length_take, Nat.min_eq_left (by omega)]
  have l2 : (cellsOf kc [R[i]]).length = 32 := by rw [cells_len]; simp
  unfold qr
  simp only [Array.toList_append]
  rw [e2, e]
  simp only [List.append_assoc]
  conv => lhs; arg 1; rw [← l1, List.take_left]
  conv => lhs; arg 2; arg 2; rw [show i * 32 + 32 = (cellsOf kc (R.take i) ++ cellsOf kc [R[i]]).length by rw [List.length_append, l1, l2], ← List.append_assoc, List.drop_left]
  simp [cellsOf]
theorem qr_all {R : List Key} (h : R.length = 150) (nx mn md : Int) : (qr R nx mn md).extract 0 4803 = qr R nx mn md := by
  rw [← qr_size h nx mn md]
  exact Array.extract_size
theorem cells_one (R : List Key) : ∀ v ∈ cellsOf kc R, v.oneCell' = true := by
  intro v hv
  simp only [cellsOf, List.mem_flatMap] at hv
  obtain ⟨k, _, hk⟩ := hv
  have := kc_one k
  rw [Array.all_eq_true_iff_forall_mem] at this
  exact this v (by simpa using hk)
theorem qr_one (R : List Key) (nx mn md : Int) : (qr R nx mn md).all (·.oneCell') = true := by
  rw [Array.all_eq_true_iff_forall_mem]
  intro v hv
  unfold qr at hv
  simp only [Array.mem_append, List.mem_toArray] at hv
  rcases hv with hv | hv
  · exact cells_one R v hv
  · simp at hv
    rcases hv with rfl | rfl | rfl <;> rfl
theorem qr_one0 {R : List Key} (h : R.length = 150) (nx mn md : Int) : (qr R nx mn md).all (·.oneCell') 0 4803 = true := all_of (qr_size h nx mn md) (qr_one R nx mn md)
theorem bldQueue (w : World) : (Instr.build 136 #[(3, .int .i64 1)]).run Try.prog w = .ok (.agg (qr ring0 0 0 1)) w := by
  refine run_build_struct (z := .agg zQueue) (places := #[(0, 4800), (4800, 1), (4801, 1), (4802, 1)]) Try.underlying136 zQ_zero (fun w => by kernel_rfl) ?_ w
  show Instr.fill _ zQueue [(3, _)] = _
  rw [fill_cons (off := 4802) (n := 1) rfl rfl (by rw [show zQueue.size = 4803 from qr_size (by simp [ring0]) 0 0 0]; omega)]
  refine congrArg some ?_
  show zQueue.setIfInBounds (4800 + 2) (.int .i64 1) = _
  exact qr_set (by simp [ring0]) 0 0 0 2 _
abbrev ptrV (p : Nat) : Value := .pointer (some ⟨p, 0, none⟩)
theorem bldGround (a b c : Nat) (w : World) : (Instr.build 75 #[(0, ptrV a), (1, ptrV b), (2, ptrV c)]).run Try.prog w = .ok (.agg #[ptrV a, ptrV b, ptrV c]) w := by kernel_rfl
theorem bldBlock (x y z t : Nat) (w : World) : (Instr.build 80 #[(0, .agg #[ptrV x, ptrV y, ptrV z]), (1, ptrV t)]).run Try.prog w = .ok (.agg #[ptrV x, ptrV y, ptrV z, ptrV t, .bool false, .slice none 0 0, .slice none 0 0, .int .u64 0]) w := by kernel_rfl
theorem bldSeens (a b : Nat) (w : World) : (Instr.build 140 #[(0, .map (some a)), (1, .map (some b))]).run Try.prog w = .ok (.agg #[.map (some a), .map (some b)]) w := by kernel_rfl
theorem bldStore (a : Nat) (w : World) : (Instr.build 143 #[(0, .map (some a))]).run Try.prog w = .ok (.agg #[.map (some a)]) w := by kernel_rfl
theorem bldLim0 (w : World) : (Instr.build 27 #[]).run Try.prog w = .ok (.agg #[.int .u64 0, .int .u64 0, .int .u64 0]) w := by kernel_rfl
theorem bldTr (x y z : UInt64) (m : Nat) (w : World) : (Instr.build 181 #[(0, .agg #[u64v x, u64v y, u64v z]), (3, .map (some m))]).run Try.prog w = .ok (.agg #[u64v x, u64v y, u64v z, .int .u64 0, .int .u64 0, .map (some m)]) w := by kernel_rfl
def limc (L : Lim) : Array Value := #[u64v L.b, u64v L.a, u64v L.s]
end Go.Proofs.Ytofpnmoeimjnnaa
