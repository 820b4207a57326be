/- The closed facts of this program that the walks over package accounts use: keys, accounts, holdings, as cells. -/
import Derived.Test.YtofpnmoeimjnnaaRa
namespace Go.Proofs.Ytofpnmoeimjnnaa
open Go.RowKit
open Go.ChangeMaps (setBlock)
set_option linter.unusedSimpArgs false
set_option linter.unusedVariables false
/-- An account. -/
structure Acct where
  c : UInt64
  o : Key
  s : UInt64
theorem Acct.ext {a b : Acct} (h1 : a.c = b.c) (h2 : a.o = b.o) (h3 : a.s = b.s) : a = b := by cases a; cases b; cases h1; cases h2; cases h3; rfl
instance : DecidableEq Acct := fun a b => if h : a.c = b.c ∧ a.o = b.o ∧ a.s = b.s then .isTrue (Acct.ext h.1 h.2.1 h.2.2) else .isFalse (fun e => h (e ▸ ⟨rfl, rfl, rfl⟩))
def acct0 : Acct := ⟨0, key0, 0⟩
def cu (x : UInt64) : Value := .int .u64 (x.toNat : Int)
def av (a : Acct) : Array Value := #[cu a.c] ++ (kc a.o ++ #[cu a.s])
theorem av_size (a : Acct) : (av a).size = 34 := by simp [av]
theorem av_toList (a : Acct) : (av a).toList = cu a.c :: ((kc a.o).toList ++ [cu a.s]) := by simp [av]
theorem av_c (a : Acct) : (av a)[0]? = some (.int .u64 (a.c.toNat : Int)) := by
  unfold av
  rw [Array.getElem?_append_left (by simp)]
  rfl
theorem av_s (a : Acct) : (av a)[33]? = some (.int .u64 (a.s.toNat : Int)) := by
  unfold av
  rw [Array.getElem?_append_right (by simp), Array.getElem?_append_right (by simp)]
  simp [cu]
theorem av_c' (a : Acct) (h : 0 < (av a).size) : (av a)[0] = .int .u64 (a.c.toNat : Int) := by
  have := av_c a
  rw [Array.getElem?_eq_getElem h] at this
  exact Option.some.inj this
theorem av_s' (a : Acct) (h : 33 < (av a).size) : (av a)[33] = .int .u64 (a.s.toNat : Int) := by
  have := av_s a
  rw [Array.getElem?_eq_getElem h] at this
  exact Option.some.inj this
theorem extract_app {a b c : Array Value} {n m : Nat} (hn : a.size = n) (hm : b.size = m) : (a ++ (b ++ c)).extract n (n + m) = b := by
  subst hn; subst hm
  apply Array.ext'
  simp [List.extract, List.drop_append]
theorem av_o (a : Acct) : (av a).extract 1 33 = kc a.o := extract_app (n := 1) (m := 32) rfl (by simp)
theorem av_all (a : Acct) : (av a).extract 0 34 = av a := by
  rw [show (34 : Nat) = (av a).size by rw [av_size]]
  exact Array.extract_size
theorem av_one (a : Acct) : (av a).all (·.oneCell') 0 34 = true := all_of (av_size a) (by
  unfold av
  rw [Array.all_append, Array.all_append, kc_one]
  simp [cu, Value.oneCell'])
theorem av_inj {a b : Acct} (h : av a = av b) : a = b := by
  have h1 := congrArg Array.toList h
  rw [av_toList, av_toList] at h1
  simp only [List.cons.injEq] at h1
  obtain ⟨h2, h3⟩ := h1
  obtain ⟨h4, h5⟩ := List.append_inj h3 (by simp)
  refine Acct.ext ?_ (kc_inj (by simpa using congrArg List.toArray h4)) ?_
  · simp only [cu, Value.int.injEq, true_and] at h2
    exact UInt64.toNat_inj.1 (by omega)
  · simp only [List.cons.injEq, cu, Value.int.injEq, true_and, and_true] at h5
    exact UInt64.toNat_inj.1 (by omega)
def avv (a : Acct) : Value := .agg (av a)
/-- A holding. -/
structure Hold where
  k : Key
  a : Acct
theorem Hold.ext {a b : Hold} (h1 : a.k = b.k) (h2 : a.a = b.a) : a = b := by cases a; cases b; cases h1; cases h2; rfl
instance : DecidableEq Hold := fun a b => if h : a.k = b.k ∧ a.a = b.a then .isTrue (Hold.ext h.1 h.2) else .isFalse (fun e => h (e ▸ ⟨rfl, rfl⟩))
def hd (h : Hold) : Array Value := kc h.k ++ (av h.a ++ #[])
theorem hd_size (h : Hold) : (hd h).size = 66 := by simp [hd, av_size]
theorem hd_key (h : Hold) : (hd h).extract 0 32 = kc h.k := by simp [hd]
theorem hd_acct (h : Hold) : (hd h).extract 32 66 = av h.a := extract_app (n := 32) (m := 34) (by simp) (av_size _)
theorem hd_all (h : Hold) : (hd h).extract 0 66 = hd h := by
  rw [show (66 : Nat) = (hd h).size by rw [hd_size]]
  exact Array.extract_size
theorem hd_one (h : Hold) : (hd h).all (·.oneCell') 0 66 = true := all_of (hd_size h) (by
  unfold hd
  rw [Array.all_append, Array.all_append, kc_one]
  have : (av h.a).all (·.oneCell') = true := by
    unfold av
    rw [Array.all_append, Array.all_append, kc_one]
    simp [cu, Value.oneCell']
  rw [this]
  simp)
theorem hd_inj {a b : Hold} (h : hd a = hd b) : a = b := by
  have h1 := congrArg (fun A => A.extract 0 32) h
  have h2 := congrArg (fun A => A.extract 32 66) h
  simp only [hd_key, hd_acct] at h1 h2
  exact Hold.ext (kc_inj h1) (av_inj h2)
def zAcct : Array Value := #[.int .u64 0] ++ (Array.replicate 32 (.int .u8 0) ++ #[.int .u64 0])
def zHold : Array Value := Array.replicate 32 (.int .u8 0) ++ zAcct
theorem zAcct_size : zAcct.size = 34 := by simp [zAcct]
theorem zHold_size : zHold.size = 66 := by simp [zHold, zAcct]
theorem zKey_eq : zKey = kc key0 := by rfl
theorem zAcct_eq : zAcct = av acct0 := by rfl
theorem zHold_eq : zHold = hd ⟨key0, acct0⟩ := by
  unfold zHold hd
  rw [Array.append_empty, ← zAcct_eq, ← zKey_eq]
  rfl
theorem ldAcct (w : World) (b o : Nat) : (Instr.loadAt 153 (.pointer (some ⟨b, o, none⟩))).run Try.prog w =
      match w.heap[b]? with
      | some (.cells cs _ _) => if o + 34 ≤ cs.size then .ok (.agg (cs.extract o (o + 34))) w else farL Try.prog w 153 b o
      | _ => farL Try.prog w 153 b o := load_rule (d := _) Try.underlying153 rfl (by kernel_rfl) w b o
theorem stAcct (w : World) (b o : Nat) (xs : Array Value) : (Instr.storeAt 153 (.pointer (some ⟨b, o, none⟩)) (.agg xs)).run Try.prog w =
      match w.heap[b]? with
      | some (.cells cs U (0, 0)) =>
        if o + 34 ≤ cs.size ∧ xs.size = 34 ∧ xs.all (·.oneCell') = true then .ok () (setBlock w b (.cells (if o = 0 ∧ 34 = cs.size then xs else wr cs o xs.toList) U (0, 0))) else farS Try.prog w 153 b o (.agg xs)
      | _ => farS Try.prog w 153 b o (.agg xs) := store_rule (by kernel_rfl) w b o xs
theorem wlAcct (dst : Option Tmp) (x : Operand) (ty : TypeId) (pos : String) (after : Array Edge) (g : Option (Nat × Bool)) (a : Act) (w : World) (K : Act → World → Prop) (Q : Exit → Act → World → Prop) :
    Oper.wp Try.prog { dst := dst, op := .load 153 x, type := ty, pos := pos, after := after, guard := g } a w K Q =
      (match a.eval x with
      | .pointer (some ⟨b, o, none⟩) =>
        (match w.heap[b]? with
        | some (.cells cs _ _) => if o + 34 ≤ cs.size then K (a.put dst (.agg (cs.extract o (o + 34)))) w else farW Try.prog { dst := dst, op := .load 153 x, type := ty, pos := pos, after := after, guard := g } a w K Q
        | _ => farW Try.prog { dst := dst, op := .load 153 x, type := ty, pos := pos, after := after, guard := g } a w K Q)
      | _ => farW Try.prog { dst := dst, op := .load 153 x, type := ty, pos := pos, after := after, guard := g } a w K Q) := wp_load_rule (d := _) Try.underlying153 rfl (by kernel_rfl) dst x ty pos after g a w K Q
theorem alAcct (w : World) : (Instr.alloc 153 true (.tuple #[])).run Try.prog w = .ok (.pointer (some ⟨w.heap.size, 0, none⟩)) (w.alloc (.cells zAcct 153)) :=
  run_alloc_row (z := .agg zAcct) (fun w => by kernel_rfl) w
theorem ldHold (w : World) (b o : Nat) : (Instr.loadAt 155 (.pointer (some ⟨b, o, none⟩))).run Try.prog w =
      match w.heap[b]? with
      | some (.cells cs _ _) => if o + 66 ≤ cs.size then .ok (.agg (cs.extract o (o + 66))) w else farL Try.prog w 155 b o
      | _ => farL Try.prog w 155 b o := load_rule (d := _) Try.underlying155 rfl (by kernel_rfl) w b o
theorem stHold (w : World) (b o : Nat) (xs : Array Value) : (Instr.storeAt 155 (.pointer (some ⟨b, o, none⟩)) (.agg xs)).run Try.prog w =
      match w.heap[b]? with
      | some (.cells cs U (0, 0)) =>
        if o + 66 ≤ cs.size ∧ xs.size = 66 ∧ xs.all (·.oneCell') = true then .ok () (setBlock w b (.cells (if o = 0 ∧ 66 = cs.size then xs else wr cs o xs.toList) U (0, 0))) else farS Try.prog w 155 b o (.agg xs)
      | _ => farS Try.prog w 155 b o (.agg xs) := store_rule (by kernel_rfl) w b o xs
theorem wlHold (dst : Option Tmp) (x : Operand) (ty : TypeId) (pos : String) (after : Array Edge) (g : Option (Nat × Bool)) (a : Act) (w : World) (K : Act → World → Prop) (Q : Exit → Act → World → Prop) :
    Oper.wp Try.prog { dst := dst, op := .load 155 x, type := ty, pos := pos, after := after, guard := g } a w K Q =
      (match a.eval x with
      | .pointer (some ⟨b, o, none⟩) =>
        (match w.heap[b]? with
        | some (.cells cs _ _) => if o + 66 ≤ cs.size then K (a.put dst (.agg (cs.extract o (o + 66)))) w else farW Try.prog { dst := dst, op := .load 155 x, type := ty, pos := pos, after := after, guard := g } a w K Q
        | _ => farW Try.prog { dst := dst, op := .load 155 x, type := ty, pos := pos, after := after, guard := g } a w K Q)
      | _ => farW Try.prog { dst := dst, op := .load 155 x, type := ty, pos := pos, after := after, guard := g } a w K Q) := wp_load_rule (d := _) Try.underlying155 rfl (by kernel_rfl) dst x ty pos after g a w K Q
theorem alHold (w : World) : (Instr.alloc 155 true (.tuple #[])).run Try.prog w = .ok (.pointer (some ⟨w.heap.size, 0, none⟩)) (w.alloc (.cells zHold 155)) :=
  run_alloc_row (z := .agg zHold) (fun w => by kernel_rfl) w
theorem zero_a (w : World) : (zeroValue 153).run Try.prog w = .ok (avv acct0) w := by kernel_rfl
theorem build0 (w : World) : (Instr.build 153 #[]).run Try.prog w = .ok (.agg (av acct0)) w := by
  refine run_build_struct (z := .agg zAcct) (places := #[(0, 1), (1, 32), (33, 1)]) Try.underlying153 (fun w => by kernel_rfl) (fun w => by kernel_rfl) ?_ w
  show Instr.fill _ zAcct [] = _
  rw [zAcct_eq]
  rfl
theorem buildHold (k : Key) (a : Acct) (w : World) : (Instr.build 155 #[(0, .agg (kc k)), (1, .agg (av a))]).run Try.prog w = .ok (.agg (hd ⟨k, a⟩)) w := by
  refine run_build_struct (z := .agg zHold) (places := #[(0, 32), (32, 34)]) Try.underlying155 (fun w => by kernel_rfl) (fun w => by kernel_rfl) ?_ w
  show Instr.fill _ zHold [(0, _), (1, _)] = _
  rw [fill_cons (off := 0) (n := 32) rfl (by simp [Value.cells]) (by rw [zHold_size]; omega), fill_cons (off := 32) (n := 34) rfl (by simp [Value.cells, av_size]) (by rw [wr_size, zHold_size]; omega)]
  show some _ = some _
  congr 1
  apply Array.toList_inj.1
  have hl : (av a).toList.length = 34 := by rw [Array.length_toList, av_size]
  have hz : zHold.toList.length = 66 := by rw [Array.length_toList, zHold_size]
  rw [wr_list _ _ _ (by rw [wr_size, zHold_size]; simp [Value.cells, av_size]), wr_list _ _ _ (by rw [zHold_size]; simp [Value.cells])]
  have hk : (kc k).toList.length = 32 := by simp
  simp only [Value.cells, hd, Array.toList_append, List.append_nil, List.take_zero, List.nil_append, hk, hl]
  rw [List.take_append_of_le_length (by omega), List.take_of_length_le (by omega), List.drop_of_length_le (by simp [hk, hz]), List.append_nil]
/-! Equality of accounts, of holdings. -/
theorem u64_cells : Try.prog.cellsOf 25 = 1 := by kernel_rfl
theorem acct_cells : Try.prog.cellsOf 153 = 34 := by kernel_rfl
theorem hold_cells : Try.prog.cellsOf 155 = 66 := by kernel_rfl
theorem u64_wf (x : UInt64) : (Lit.int .u64 (x.toNat : Int)).wf = true := by
  have := x.toNat_lt
  simp [Lit.wf, IntKind.min, IntKind.max, IntKind.bits, IntKind.signed]
  omega
theorem lits_u64 (x : UInt64) (d : Nat) : Try.prog.keyLits (d + 1) 25 [cu x] = some [.int .u64 (x.toNat : Int)] := by
  unfold Program.keyLits
  rw [Try.underlying25]
  simp [cu, u64_wf]
theorem acct_lits (a : Acct) (d : Nat) : ∃ l, Try.prog.keyLits (d + 3) 153 (av a).toList = some l := by
  obtain ⟨l, hl⟩ := keyIs.lits a.o d
  unfold Program.keyLits
  rw [Try.underlying153]
  simp only [acct_cells]
  rw [if_pos ⟨by rw [Array.length_toList, av_size], by kernel_rfl⟩]
  have hk : (kc a.o).toList.length = 32 := by simp
  have h1 : (av a).toList.take 1 = [cu a.c] := by rw [av_toList]; rfl
  have h2 : ((av a).toList.drop 1).take 32 = (kc a.o).toList := by
    rw [av_toList, List.drop_succ_cons, List.drop_zero, List.take_append_of_le_length (by omega), List.take_of_length_le (by omega)]
  have h3 : ((av a).toList.drop 33).take 1 = [cu a.s] := by
    rw [av_toList, List.drop_succ_cons, List.drop_append_of_le_length (by omega), List.drop_of_length_le (by omega)]
    rfl
  simp only [List.mapM_cons, List.mapM_nil, keyIs.cK, u64_cells, List.drop_zero, h1, hl, h2, h3, lits_u64 a.c (d + 1), lits_u64 a.s (d + 1)]
  exact ⟨_, rfl⟩
theorem eq_struct {T : TypeId} (m d D : Nat) (hD : d + m = D) (hk : Try.prog.keyTypeAt m T = true) (ht : Try.prog.tiled m T = true) {x y : Array Value} {lx ly : List Lit} (fx : (Value.agg x).formed Try.prog T = true) (fy : (Value.agg y).formed Try.prog T = true)
    (hx : Try.prog.keyLits m T x.toList = some lx) (hy : Try.prog.keyLits m T y.toList = some ly) (w : World) : ∃ r : Bool, (Op.equalIn D T (.agg x) (.agg y)).run Try.prog w = .ok r w ∧ (r = true ↔ x = y) := by
  subst hD
  obtain ⟨r, hr, hiff⟩ := run_equalIn_deep (P := Try.prog) d m T hk w m m (.agg x) (.agg y) lx ly fx fy hx hy
  refine ⟨r, hr, hiff.trans ⟨fun e => ?_, fun e => ?_⟩⟩
  · have h1 := cells_of_lits m T ht m _ _ hx
    have h2 := cells_of_lits m T ht m _ _ hy
    rw [e, ← h2] at h1
    exact Array.toList_inj.1 h1
  · subst e
    rw [hx] at hy
    exact Option.some.inj hy
theorem eqAcct (a b : Acct) (w : World) : (Op.equalIn 10000 153 (.agg (av a)) (.agg (av b))).run Try.prog w = .ok (decide (a = b)) w := by
  obtain ⟨lx, hx⟩ := acct_lits a 0
  obtain ⟨ly, hy⟩ := acct_lits b 0
  have hat : Try.prog.keyTypeAt 3 153 = true := by kernel_rfl
  have hti : Try.prog.tiled 3 153 = true := by kernel_rfl
  have hf : ∀ a : Acct, (Value.agg (av a)).formed Try.prog 153 = true := fun a => by
    simp [Value.formed, Try.underlying153, acct_cells, av_size]
  obtain ⟨r, hr, hiff⟩ := eq_struct 3 9997 10000 rfl hat hti (hf a) (hf b) hx hy w
  have e : r = decide (a = b) := by
    rw [Bool.eq_iff_iff, hiff, decide_eq_true_eq]
    exact ⟨av_inj, fun e => by rw [e]⟩
  rw [← e]
  exact hr
theorem hold_lits (h : Hold) (d : Nat) : ∃ l, Try.prog.keyLits (d + 4) 155 (hd h).toList = some l := by
  obtain ⟨l, hl⟩ := keyIs.lits h.k (d + 1)
  obtain ⟨l2, hl2⟩ := acct_lits h.a d
  unfold Program.keyLits
  rw [Try.underlying155]
  simp only [hold_cells]
  rw [if_pos ⟨by rw [Array.length_toList, hd_size], by kernel_rfl⟩]
  have hk : (kc h.k).toList.length = 32 := by simp
  have ha : (av h.a).toList.length = 34 := by rw [Array.length_toList, av_size]
  have h0 : (hd h).toList = (kc h.k).toList ++ (av h.a).toList := by simp [hd]
  have h1 : (hd h).toList.take 32 = (kc h.k).toList := by rw [h0, List.take_append_of_le_length (by omega), List.take_of_length_le (by omega)]
  have h2 : ((hd h).toList.drop 32).take 34 = (av h.a).toList := by
    rw [h0, List.drop_append_of_le_length (by omega), List.drop_of_length_le (by omega), List.nil_append, List.take_of_length_le (by omega)]
  simp only [List.mapM_cons, List.mapM_nil, keyIs.cK, acct_cells, List.drop_zero, h1, hl, h2, hl2]
  exact ⟨_, rfl⟩
theorem eqHold (a b : Hold) (w : World) : (Op.equalIn 10000 155 (.agg (hd a)) (.agg (hd b))).run Try.prog w = .ok (decide (a = b)) w := by
  obtain ⟨lx, hx⟩ := hold_lits a 0
  obtain ⟨ly, hy⟩ := hold_lits b 0
  have hat : Try.prog.keyTypeAt 4 155 = true := by kernel_rfl
  have hti : Try.prog.tiled 4 155 = true := by kernel_rfl
  have hf : ∀ a : Hold, (Value.agg (hd a)).formed Try.prog 155 = true := fun a => by
    simp [Value.formed, Try.underlying155, hold_cells, hd_size]
  obtain ⟨r, hr, hiff⟩ := eq_struct 4 9996 10000 rfl hat hti (hf a) (hf b) hx hy w
  have e : r = decide (a = b) := by
    rw [Bool.eq_iff_iff, hiff, decide_eq_true_eq]
    exact ⟨hd_inj, fun e => by rw [e]⟩
  rw [← e]
  exact hr
theorem hd_onecell (h : Hold) : ∀ u ∈ (hd h).toList, u.oneCell' = true := by
  have h1 := hd_one h
  rw [show (66 : Nat) = (hd h).size by rw [hd_size], Array.all_eq_true_iff_forall_mem] at h1
  exact fun u hu => h1 u (by simpa using hu)
theorem holdT : ElT Try.prog 22 155 hd 66 80 where
  u := Try.underlying22
  info := by
    obtain ⟨i0, hi, hz0, hz1, hz2⟩ := info_parts (show (Try.prog.info? 155).map (fun i => (i.zero, i.size, i.bytes)) = some (some (.agg zHold), 66, 80) by kernel_rfl)
    exact ⟨i0, _, hi, hz0, hz1, hz2, zHold_size⟩
  pos := by omega
  size x := hd_size _
  one := hd_onecell
theorem eqMap (w : World) (r : Option Nat) : (binOp .eql 141 (.map r) (.map none)).run Try.prog w = .ok (.bool r.isNone) w := run_eql_map_nil w _ _ _ _ Try.underlying141
theorem neMap (w : World) (r : Option Nat) : (binOp .neq 141 (.map r) (.map none)).run Try.prog w = .ok (.bool !r.isNone) w := run_neq_map_nil w _ _ _ _ Try.underlying141
end Go.Proofs.Ytofpnmoeimjnnaa
