/- Who goes ahead: the walks of Ahead, ahead, and of the functions over it. -/
import Derived.Test.YtdeghpmlhcaedaaDoorHq
import Derived.Shelf.SlSortCmp.QuietGrown
namespace Go.Proofs.YtdeghpmlhcaedaaDoor
open Go.RowKit Go.Sort
open Go.ChangeMaps (setBlock)
set_option linter.unusedSimpArgs false
set_option linter.unusedVariables false
def zRk : Array Value := #[.int .u64 0, .int .u64 0]
theorem ldRk (w : World) (b o : Nat) : (Instr.loadAt 60 (.pointer (some ⟨b, o, none⟩))).run Tryd.prog w =
      match w.heap[b]? with
      | some (.cells cs _ _) => if o + 2 ≤ cs.size then .ok (.agg (cs.extract o (o + 2))) w else farL Tryd.prog w 60 b o
      | _ => farL Tryd.prog w 60 b o := load_rule (d := _) Tryd.underlying60 rfl (by kernel_rfl) w b o
theorem stRk (w : World) (b o : Nat) (xs : Array Value) : (Instr.storeAt 60 (.pointer (some ⟨b, o, none⟩)) (.agg xs)).run Tryd.prog w =
      match w.heap[b]? with
      | some (.cells cs U (0, 0)) =>
        if o + 2 ≤ cs.size ∧ xs.size = 2 ∧ xs.all (·.oneCell') = true then .ok () (setBlock w b (.cells (if o = 0 ∧ 2 = cs.size then xs else wr cs o xs.toList) U (0, 0))) else farS Tryd.prog w 60 b o (.agg xs)
      | _ => farS Tryd.prog w 60 b o (.agg xs) := store_rule (by kernel_rfl) w b o xs
theorem wlRk (dst : Option Tmp) (x : Operand) (ty : TypeId) (pos : String) (after : Array Edge) (g : Option (Nat × Bool)) (a : Act) (w : World) (K : Act → World → Prop) (Q : Exit → Act → World → Prop) :
    Oper.wp Tryd.prog { dst := dst, op := .load 60 x, type := ty, pos := pos, after := after, guard := g } a w K Q =
      (match a.eval x with
      | .pointer (some ⟨b, o, none⟩) =>
        (match w.heap[b]? with
        | some (.cells cs _ _) => if o + 2 ≤ cs.size then K (a.put dst (.agg (cs.extract o (o + 2)))) w else farW Tryd.prog { dst := dst, op := .load 60 x, type := ty, pos := pos, after := after, guard := g } a w K Q
        | _ => farW Tryd.prog { dst := dst, op := .load 60 x, type := ty, pos := pos, after := after, guard := g } a w K Q)
      | _ => farW Tryd.prog { dst := dst, op := .load 60 x, type := ty, pos := pos, after := after, guard := g } a w K Q) := wp_load_rule (d := _) Tryd.underlying60 rfl (by kernel_rfl) dst x ty pos after g a w K Q
theorem alRk (w : World) : (Instr.alloc 60 true (.tuple #[])).run Tryd.prog w = .ok (.pointer (some ⟨w.heap.size, 0, none⟩)) (w.alloc (.cells zRk 60)) :=
  run_alloc_row (z := .agg zRk) (fun w => by kernel_rfl) w
attribute [local go_sem ↓] wlRk ldRk stRk
attribute [local go_sem] rkc_size ndc_size cell_blk frozen_blk one_int one_bool one_ptr one_slice one_map Value.cells
theorem grow_mod (w : World) (q : Nat) (os : Array Obj) : Mod (fun _ => False) w (grow (w.drewN q) os) := by
  refine ⟨rfl, rfl, rfl, ?_, fun i hi _ => ?_⟩
  · show w.heap.size ≤ (w.heap ++ os).size
    simp
  · show (w.heap ++ os)[i]? = w.heap[i]?
    exact Array.getElem?_append_left hi
theorem grow_at {w : World} {b : Nat} {o : Obj} (h : w.heap[b]? = some o) (q : Nat) (os : Array Obj) : (grow (w.drewN q) os).heap[b]? = some o := (grow_mod w q os).at0 h
theorem Ahead_c (a b : Rk) (w : World) : Calls Tryd.prog 14 #[.agg (rkc a), .agg (rkc b)] w fun e w' => e = .returned (.bool (Ahead a b)) ∧ ∃ q os, w' = grow (w.drewN q) os := by
  go_enter Tryd.func14, Tryd.ntmps14
  go_upto_region 1 with fail
  have k1 := (fresh2 w (.cells (rkc a) 60) (.cells (rkc b) 60)).1
  have k2 := (fresh2 w (.cells (rkc a) 60) (.cells (rkc b) 60)).2
  have hw : ∃ os, (w.alloc (.cells (rkc a) 60)).alloc (.cells (rkc b) 60) = grow w os := ⟨_, by rw [alloc_eq_grow, alloc_eq_grow, grow_grow]⟩
  have HW := Lib.hid hw
  clear hw
  generalize (w.alloc (.cells (rkc a) 60)).alloc (.cells (rkc b) 60) = w2 at *
  generalize w.heap.size = n at *
  obtain ⟨p, m⟩ := a
  obtain ⟨p', m'⟩ := b
  simp only [rkc] at k1 k2
  by_cases hp : p = p'
  · subst hp
    go_wp2_with fail
    go_ret
    obtain ⟨os, rfl⟩ := HW.out
    exact ⟨by simp [Ahead], 0, os, rfl⟩
  · have hne : ((p.toNat : Int) != (p'.toNat : Int)) = true := by
      rw [bne_iff_ne]
      intro e
      exact hp (UInt64.toNat_inj.1 (by omega))
    have HP := Lib.hid hp
    clear hp
    go_wp2_with fail
    go_ret
    obtain ⟨os, rfl⟩ := HW.out
    exact ⟨by simp [Ahead, HP.out], 0, os, rfl⟩
theorem u64_wf (x : UInt64) : (Lit.int .u64 (x.toNat : Int)).wf = true := by
  have := x.toNat_lt
  simp [Lit.wf, IntKind.min, IntKind.max, IntKind.bits, IntKind.signed]
  omega
theorem lits_u64 (x : UInt64) (d : Nat) : Tryd.prog.keyLits (d + 1) 30 [.int .u64 (x.toNat : Int)] = some [.int .u64 (x.toNat : Int)] := by
  unfold Program.keyLits
  rw [Tryd.underlying30]
  simp [u64_wf]
theorem u64_cells : Tryd.prog.cellsOf 30 = 1 := by kernel_rfl
theorem rk_cells : Tryd.prog.cellsOf 60 = 2 := by kernel_rfl
theorem rk_lits (a : Rk) (d : Nat) : ∃ l, Tryd.prog.keyLits (d + 3) 60 (rkc a).toList = some l := by
  unfold Program.keyLits
  rw [Tryd.underlying60]
  simp only [rk_cells]
  rw [if_pos ⟨by rw [Array.length_toList, rkc_size], by kernel_rfl⟩]
  have h1 : (rkc a).toList.take 1 = [.int .u64 (a.p.toNat : Int)] := rfl
  have h2 : ((rkc a).toList.drop 1).take 1 = [.int .u64 (a.n.toNat : Int)] := rfl
  simp only [List.mapM_cons, List.mapM_nil, u64_cells, List.drop_zero, h1, h2, lits_u64 a.p (d + 1), lits_u64 a.n (d + 1)]
  exact ⟨_, rfl⟩
theorem eqRk (a b : Rk) (w : World) : (Op.equalIn 10000 60 (.agg (rkc a)) (.agg (rkc b))).run Tryd.prog w = .ok (decide (a = b)) w := by
  obtain ⟨lx, hx⟩ := rk_lits a 0
  obtain ⟨ly, hy⟩ := rk_lits b 0
  have hat : Tryd.prog.keyTypeAt 3 60 = true := by kernel_rfl
  have hti : Tryd.prog.tiled 3 60 = true := by kernel_rfl
  have hf : ∀ a : Rk, (Value.agg (rkc a)).formed Tryd.prog 60 = true := fun a => by
    simp [Value.formed, Tryd.underlying60, rk_cells, rkc_size]
  obtain ⟨r, hr, hiff⟩ := run_equalIn_deep (P := Tryd.prog) 9997 3 60 hat w 3 3 (.agg (rkc a)) (.agg (rkc b)) lx ly (hf a) (hf b) hx hy
  have e : r = decide (a = b) := by
    rw [Bool.eq_iff_iff, hiff, decide_eq_true_eq]
    refine ⟨fun e => ?_, fun e => ?_⟩
    · have h1 := cells_of_lits 3 60 hti 3 _ _ hx
      have h2 := cells_of_lits 3 60 hti 3 _ _ hy
      rw [e, ← h2] at h1
      exact rkc_inj (Array.toList_inj.1 h1)
    · subst e
      rw [hx] at hy
      exact Option.some.inj hy
  rw [← e]
  exact hr
theorem eqRk2 (a b : Rk) (w : World) : (Op.equalIn 10000 60 (.agg #[.int .u64 (a.p.toNat : Int), .int .u64 (a.n.toNat : Int)]) (.agg #[.int .u64 (b.p.toNat : Int), .int .u64 (b.n.toNat : Int)])).run Tryd.prog w = .ok (decide (a = b)) w := eqRk a b w
attribute [local go_sem ↓] eqRk eqRk2
theorem ndc_rank (k : Bool) (x : Nd) (i o : Int) : (ndc k x i o).extract 0 2 = rkc x.r := rfl
theorem ndc_id (k : Bool) (x : Nd) (i o : Int) : (ndc k x i o)[2]? = some (.int .i64 x.id.toInt) := rfl
attribute [local go_sem] ndc_rank ndc_id
set_option maxHeartbeats 1600000 in
theorem ahead_c (a b : Nat) (k : Bool) (x y : Nd) (i o i' o' : Int) (w : World) (ka : w.heap[a]? = some (.cells (ndc k x i o) 131 (0, 0))) (kb : w.heap[b]? = some (.cells (ndc k y i' o') 131 (0, 0))) :
    Calls Tryd.prog 45 #[ptrV a, ptrV b] w fun e w' => e = .returned (.bool (nlt x y)) ∧ ∃ q os, w' = grow (w.drewN q) os := by
  unfold ndc at ka kb
  by_cases he : x.r = y.r
  · have hn : nlt x y = decide (x.id.toInt < y.id.toInt) := by simp [nlt, he]
    have hd := decide_eq_true he
    clear he
    generalize nlt x y = z at *
    subst hn
    go_enter Tryd.func45, Tryd.ntmps45
    go_upto_region 1 with fail
    have hmix : Tryd.prog.follows .mixedOrders = true := by kernel_rfl
    have hg := fun n os => grow_at ka n os
    have hg' := fun n os => grow_at kb n os
    go_quiet_grown (fail)
    have ka := hg nq osq
    have kb := hg' nq osq
    clear hg hg'
    generalize hgw : grow (w.drewN nq) osq = w2 at *
    have HW : Hid (∃ q os, w2 = grow (w.drewN q) os) := Lib.hid ⟨nq, osq, hgw.symm⟩
    clear hgw
    go_upto_region 2 with fail
    have hg := fun n os => grow_at ka n os
    have hg' := fun n os => grow_at kb n os
    go_quiet_grown (fail)
    go_wp2_with fail
    go_ret
    obtain ⟨q, os, rfl⟩ := HW.out
    exact ⟨by first | rfl | simp, q + nq, os ++ osq, by show grow (grow ((w.drewN q).drewN nq) os) osq = _; rw [grow_grow, World.drewN_drewN]⟩
  · have hn : nlt x y = Ahead x.r y.r := by simp [nlt, he]
    have hd := decide_eq_false he
    clear he
    generalize nlt x y = z at *
    subst hn
    have hmix : Tryd.prog.follows .mixedOrders = true := by kernel_rfl
    go_enter Tryd.func45, Tryd.ntmps45
    go_upto_region 1 with fail
    have hg := fun n os => grow_at ka n os
    have hg' := fun n os => grow_at kb n os
    go_quiet_grown (fail)
    have ka := hg nq osq
    have kb := hg' nq osq
    clear hg hg'
    generalize hgw : grow (w.drewN nq) osq = w2 at *
    have HW : Hid (∃ q os, w2 = grow (w.drewN q) os) := Lib.hid ⟨nq, osq, hgw.symm⟩
    clear hgw
    go_upto_region 3 with fail
    have hg := fun n os => grow_at ka n os
    have hg' := fun n os => grow_at kb n os
    have hA : ∀ n os, Calls Tryd.prog 14 #[.agg #[.int .u64 (x.r.p.toNat : Int), .int .u64 (x.r.n.toNat : Int)], .agg #[.int .u64 (y.r.p.toNat : Int), .int .u64 (y.r.n.toNat : Int)]] _ _ := fun n os => Ahead_c x.r y.r (grow (w2.drewN n) os)
    go_quiet_grown (first | (go_at_call 14; refine Calls.grown_of (hA _ _)))
    go_wp2_with fail
    go_ret
    obtain ⟨q, os, rfl⟩ := HW.out
    exact ⟨by first | rfl | simp, q + nq, os ++ osq, by show grow (grow ((w.drewN q).drewN nq) os) osq = _; rw [grow_grow, World.drewN_drewN]⟩
theorem back_c (a b : Nat) (k : Bool) (x y : Nd) (i o i' o' : Int) (w : World) (ka : w.heap[a]? = some (.cells (ndc k x i o) 131 (0, 0))) (kb : w.heap[b]? = some (.cells (ndc k y i' o') 131 (0, 0))) :
    Calls Tryd.prog 46 #[ptrV a, ptrV b] w fun e w' => e = .returned (.bool (nlt y x)) ∧ ∃ q os, w' = grow (w.drewN q) os := by
  have hA := ahead_c b a k y x i' o' i o w kb ka
  clear ka kb
  go_enter Tryd.func46, Tryd.ntmps46
  go_wp2_with fail
  go_at_call 45
  refine hA.mono ?_
  rintro e w1 ⟨rfl, q, os, rfl⟩
  go_wp2_with fail
  go_ret
  exact ⟨rfl, q, os, rfl⟩
def ncmp (x y : Nd) : Int := if nlt x y then -1 else 1
theorem cmpN_c (a b : Nat) (k : Bool) (x y : Nd) (i o i' o' : Int) (w : World) (ka : w.heap[a]? = some (.cells (ndc k x i o) 131 (0, 0))) (kb : w.heap[b]? = some (.cells (ndc k y i' o') 131 (0, 0))) :
    Calls Tryd.prog 61 #[ptrV a, ptrV b] w fun e w' => e = .returned (.int .i64 (ncmp x y)) ∧ ∃ q os, w' = grow (w.drewN q) os := by
  have hA := ahead_c a b k x y i o i' o' w ka kb
  clear ka kb
  have HN : Hid (ncmp x y = if nlt x y then -1 else 1) := Lib.hid rfl
  go_enter Tryd.func61, Tryd.ntmps61
  go_wp2_with fail
  go_at_call 45
  refine hA.mono ?_
  rintro e w1 ⟨rfl, q, os, rfl⟩
  cases hz : nlt x y
  · go_wp2_with fail
    go_ret
    exact ⟨by rw [HN.out, hz]; rfl, q, os, rfl⟩
  · go_wp2_with fail
    go_ret
    exact ⟨by rw [HN.out, hz]; rfl, q, os, rfl⟩
/-- A side's function. -/
def fn : Bool → FuncId
  | false => 45
  | true => 46
theorem fF_eq (k : Bool) : fF k = .func (.func (fn k)) #[] #[] := by cases k <;> rfl
theorem first_c (q : Bool) (a b : Nat) (k : Bool) (x y : Nd) (i o i' o' : Int) (w : World) (ka : w.heap[a]? = some (.cells (ndc k x i o) 131 (0, 0))) (kb : w.heap[b]? = some (.cells (ndc k y i' o') 131 (0, 0))) :
    Calls Tryd.prog (fn q) #[ptrV a, ptrV b] w fun e w' => e = .returned (.bool (flt q x y)) ∧ Mod (fun _ => False) w w' := by
  cases q
  · refine (ahead_c a b k x y i o i' o' w ka kb).mono ?_
    rintro e w' ⟨rfl, q, os, rfl⟩
    exact ⟨rfl, grow_mod _ _ _⟩
  · refine (back_c a b k x y i o i' o' w ka kb).mono ?_
    rintro e w' ⟨rfl, q, os, rfl⟩
    exact ⟨rfl, grow_mod _ _ _⟩
theorem enter_fn (q : Bool) (args : Array Value) (w : World) : (callFunc (fn q) args).run Tryd.prog w = .ok (.enter (fn q) args) w := by
  cases q
  · exact enters_of Tryd.func45 (by kernel_rfl) rfl args w
  · exact enters_of Tryd.func46 (by kernel_rfl) rfl args w
end Go.Proofs.YtdeghpmlhcaedaaDoor
