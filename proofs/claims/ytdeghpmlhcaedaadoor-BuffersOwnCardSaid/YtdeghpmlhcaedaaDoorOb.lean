/- Buffers: what BuffersOwn hands in, and what is answered: its shape in memory, and how it bears a byte that is written. -/
import Derived.Test.YtdeghpmlhcaedaaDoorBp
namespace Go.Proofs.YtdeghpmlhcaedaaDoor
open Go.RowKit
open Go.ChangeMaps (setBlock)
set_option linter.unusedSimpArgs false
set_option linter.unusedVariables false
/-! A role equals itself, as the model compares. -/
theorem kx_take (k : Key) (xs : List Value) : (kx k xs).toList.take 32 = (kc k).toList := by
  unfold kx
  rw [Array.toList_append, List.take_append_of_le_length (by simp)]
  exact List.take_of_length_le (by simp)
theorem kx_drop (k : Key) (xs : List Value) (j : Nat) : (kx k xs).toList.drop (32 + j) = xs.drop j := by
  unfold kx
  rw [Array.toList_append, List.drop_append, List.drop_eq_nil_of_le (by simp), List.nil_append]
  simp
theorem lits_bool (b : Bool) (d : Nat) : Tryd.prog.keyLits (d + 1) 4 [Value.bool b] = some [.bool b] := by
  unfold Program.keyLits
  rw [Tryd.underlying4]
theorem bool_cells : Tryd.prog.cellsOf 4 = 1 := by kernel_rfl
theorem role_cells : Tryd.prog.cellsOf 75 = 34 := by kernel_rfl
theorem role_lits (r : Role) (d : Nat) : ∃ l, Tryd.prog.keyLits (d + 3) 75 (rcr r).toList = some l := by
  obtain ⟨l, hl⟩ := keyIs.lits r.k d
  unfold Program.keyLits
  rw [Tryd.underlying75]
  simp only [rcr, rc, role_cells]
  rw [if_pos ⟨by rw [Array.length_toList]; exact kx_size _ _, by kernel_rfl⟩]
  have h1 := kx_take r.k [.bool r.s, .bool r.w]
  have h2 := kx_drop r.k [.bool r.s, .bool r.w] 0
  have h3 := kx_drop r.k [.bool r.s, .bool r.w] 1
  simp only [Nat.add_zero, List.drop_zero, List.drop_succ_cons] at h2 h3
  simp only [List.mapM_cons, List.mapM_nil, keyIs.cK, bool_cells, List.drop_zero, h1, hl, h2, h3, List.take_succ_cons, List.take_zero, lits_bool r.s (d + 1), lits_bool r.w (d + 1)]
  exact ⟨_, rfl⟩
theorem eq_struct {T : TypeId} (hk : Tryd.prog.keyTypeAt 3 T = true) (ht : Tryd.prog.tiled 3 T = true) {x y : Array Value} {lx ly : List Lit} (fx : (Value.agg x).formed Tryd.prog T = true) (fy : (Value.agg y).formed Tryd.prog T = true)
    (hx : Tryd.prog.keyLits 3 T x.toList = some lx) (hy : Tryd.prog.keyLits 3 T y.toList = some ly) (w : World) : ∃ r : Bool, (Op.equalIn 10000 T (.agg x) (.agg y)).run Tryd.prog w = .ok r w ∧ (r = true ↔ x = y) := by
  obtain ⟨r, hr, hiff⟩ := run_equalIn_deep (P := Tryd.prog) 9997 3 T hk w 3 3 (.agg x) (.agg y) lx ly fx fy hx hy
  refine ⟨r, hr, hiff.trans ⟨fun e => ?_, fun e => ?_⟩⟩
  · have h1 := cells_of_lits 3 T ht 3 _ _ hx
    have h2 := cells_of_lits 3 T ht 3 _ _ hy
    rw [e, ← h2] at h1
    exact Array.toList_inj.1 h1
  · subst e
    rw [hx] at hy
    exact Option.some.inj hy
theorem eqRole1 (x : Role) (w : World) : (Op.equalIn 10000 75 (.agg (rcr x)) (.agg (rcr x))).run Tryd.prog w = .ok true w := by
  obtain ⟨lx, hx⟩ := role_lits x 0
  have hat : Tryd.prog.keyTypeAt 3 75 = true := by kernel_rfl
  have hti : Tryd.prog.tiled 3 75 = true := by kernel_rfl
  have hf : (Value.agg (rcr x)).formed Tryd.prog 75 = true := by
    simp [Value.formed, Tryd.underlying75, role_cells, rcr, rc_size]
  obtain ⟨r, hr, hiff⟩ := eq_struct hat hti hf hf hx hx w
  rw [hr, hiff.2 rfl]
/-! What is built. -/
def sig1 : Sg := ⟨1 :: List.replicate 63 0, rfl⟩
theorem bldSig (w : World) : (Instr.build 77 #[(0, .int .u8 1)]).run Tryd.prog w = .ok (.agg (sgc sig1)) w := by kernel_rfl
theorem eqSig1 (w : World) : (Op.equalIn 10000 77 (.agg (sgc sig1)) (.agg (sgc sig1))).run Tryd.prog w = .ok true w := by kernel_rfl
theorem bldRole1 (k : Key) (w : World) : (Instr.build 75 #[(0, .agg (kc k))]).run Tryd.prog w = .ok (.agg (rcr ⟨k, false, false⟩)) w := by
  refine run_build_struct (z := .agg zRole) (places := #[(0, 32), (32, 1), (33, 1)]) Tryd.underlying75 (fun w => by kernel_rfl) (fun w => by kernel_rfl) ?_ w
  show Instr.fill _ zRole [(0, _)] = _
  rw [fill_cons (off := 0) (n := 32) rfl (by simp [Value.cells]) (by rw [zRole_size]; omega)]
  show some _ = some _
  congr 1
  apply Array.toList_inj.1
  have hk : (kc k).toList.length = 32 := by simp
  rw [wr_list _ _ _ (by rw [zRole_size]; simp [Value.cells])]
  simp only [Value.cells, List.take_zero, List.nil_append, hk]
  unfold rcr rc kx zRole
  simp
theorem bsKey (x : Key) (w : World) : (Instr.buildSlice 35 1 #[(0, .agg (kc x))]).run Tryd.prog w = .ok (.slice (some ⟨w.heap.size, 0, none⟩) 1 1) (w.alloc (.cells (kc x) 69)) := by
  obtain ⟨i0, z, hi, hz, hz1, hz2, hz3⟩ := keysT.info
  have hs : (kc x).size = 32 := keysT.size x
  refine run_buildSlice w _ _ 1 _ _ i0 _ Tryd.underlying35 hi hz (by rw [hz1]; omega) (by rw [hz1]; omega) ?_
  rw [hz1]
  show Instr.fill _ _ [(0, _)] = _
  rw [fill_cons (off := 0) (n := 32) rfl (by simp [Value.cells, hs]) (by simp)]
  show some (wr _ 0 (kc x).toList) = _
  rw [wr_whole (kc x) _ (by simp [hs, hz3])]
theorem bsSig (x : Sg) (w : World) : (Instr.buildSlice 32 1 #[(0, .agg (sgc x))]).run Tryd.prog w = .ok (.slice (some ⟨w.heap.size, 0, none⟩) 1 1) (w.alloc (.cells (sgc x) 77)) := by
  obtain ⟨i0, z, hi, hz, hz1, hz2, hz3⟩ := sgT.info
  have hs : (sgc x).size = 64 := sgT.size x
  refine run_buildSlice w _ _ 1 _ _ i0 _ Tryd.underlying32 hi hz (by rw [hz1]; omega) (by rw [hz1]; omega) ?_
  rw [hz1]
  show Instr.fill _ _ [(0, _)] = _
  rw [fill_cons (off := 0) (n := 64) rfl (by simp [Value.cells, hs]) (by simp)]
  show some (wr _ 0 (sgc x).toList) = _
  rw [wr_whole (sgc x) _ (by simp [hs, hz3])]
theorem bsIns (x : InR) (w : World) : (Instr.buildSlice 38 1 #[(0, .agg (inr x))]).run Tryd.prog w = .ok (.slice (some ⟨w.heap.size, 0, none⟩) 1 1) (w.alloc (.cells (inr x) 71)) := by
  obtain ⟨i0, z, hi, hz, hz1, hz2, hz3⟩ := instrT.info
  have hs : (inr x).size = 3 := instrT.size x
  refine run_buildSlice w _ _ 1 _ _ i0 _ Tryd.underlying38 hi hz (by rw [hz1]; omega) (by rw [hz1]; omega) ?_
  rw [hz1]
  show Instr.fill _ _ [(0, _)] = _
  rw [fill_cons (off := 0) (n := 3) rfl (by simp [Value.cells, hs]) (by simp)]
  show some (wr _ 0 (inr x).toList) = _
  rw [wr_whole (inr x) _ (by simp [hs, hz3])]
theorem bsLks (x : LoR) (w : World) : (Instr.buildSlice 39 1 #[(0, .agg (lor x))]).run Tryd.prog w = .ok (.slice (some ⟨w.heap.size, 0, none⟩) 1 1) (w.alloc (.cells (lor x) 73)) := by
  obtain ⟨i0, z, hi, hz, hz1, hz2, hz3⟩ := lookupT.info
  have hs : (lor x).size = 34 := lookupT.size x
  refine run_buildSlice w _ _ 1 _ _ i0 _ Tryd.underlying39 hi hz (by rw [hz1]; omega) (by rw [hz1]; omega) ?_
  rw [hz1]
  show Instr.fill _ _ [(0, _)] = _
  rw [fill_cons (off := 0) (n := 34) rfl (by simp [Value.cells, hs]) (by simp)]
  show some (wr _ 0 (lor x).toList) = _
  rw [wr_whole (lor x) _ (by simp [hs, hz3])]
theorem bsRol (x : Role) (w : World) : (Instr.buildSlice 44 1 #[(0, .agg (rcr x))]).run Tryd.prog w = .ok (.slice (some ⟨w.heap.size, 0, none⟩) 1 1) (w.alloc (.cells (rcr x) 75)) := by
  obtain ⟨i0, z, hi, hz, hz1, hz2, hz3⟩ := rolesT.info
  have hs : (rcr x).size = 34 := rolesT.size x
  refine run_buildSlice w _ _ 1 _ _ i0 _ Tryd.underlying44 hi hz (by rw [hz1]; omega) (by rw [hz1]; omega) ?_
  rw [hz1]
  show Instr.fill _ _ [(0, _)] = _
  rw [fill_cons (off := 0) (n := 34) rfl (by simp [Value.cells, hs]) (by simp)]
  show some (wr _ 0 (rcr x).toList) = _
  rw [wr_whole (rcr x) _ (by simp [hs, hz3])]
theorem bldIn (a b : Option Addr) {l : List UInt8} {n : Nat} (hn : l.length = n) (c d : Nat) (w : World) : (Instr.build 71 #[(1, .slice a n c), (2, .slice b n d)]).run Tryd.prog w = .ok (.agg (inr ⟨0, ⟨a, l, c⟩, ⟨b, l, d⟩⟩)) w := by
  subst hn
  kernel_rfl
theorem bldLo (a b : Option Addr) {l : List UInt8} {n : Nat} (hn : l.length = n) (c d : Nat) (w : World) : (Instr.build 73 #[(1, .slice a n c), (2, .slice b n d)]).run Tryd.prog w = .ok (.agg (lor ⟨key0, ⟨a, l, c⟩, ⟨b, l, d⟩⟩)) w := by
  subst hn
  kernel_rfl
/-- A message. -/
def msgC (k i l : Value) : Array Value := mx [.bool false, u8v 0, u8v 0, u8v 0, k] key0 [i, l]
def zMsg : Array Value := msgC (.slice none 0 0) (.slice none 0 0) (.slice none 0 0)
theorem ldMsg (w : World) (b o : Nat) : (Instr.loadAt 41 (.pointer (some ⟨b, o, none⟩))).run Tryd.prog w =
      match w.heap[b]? with
      | some (.cells cs _ _) => if o + 39 ≤ cs.size then .ok (.agg (cs.extract o (o + 39))) w else farL Tryd.prog w 41 b o
      | _ => farL Tryd.prog w 41 b o := load_rule (d := _) Tryd.underlying41 rfl (by kernel_rfl) w b o
theorem stMsg (w : World) (b o : Nat) (xs : Array Value) : (Instr.storeAt 41 (.pointer (some ⟨b, o, none⟩)) (.agg xs)).run Tryd.prog w =
      match w.heap[b]? with
      | some (.cells cs U (0, 0)) =>
        if o + 39 ≤ cs.size ∧ xs.size = 39 ∧ xs.all (·.oneCell') = true then .ok () (setBlock w b (.cells (if o = 0 ∧ 39 = cs.size then xs else wr cs o xs.toList) U (0, 0))) else farS Tryd.prog w 41 b o (.agg xs)
      | _ => farS Tryd.prog w 41 b o (.agg xs) := store_rule (by kernel_rfl) w b o xs
theorem wlMsg (dst : Option Tmp) (x : Operand) (ty : TypeId) (pos : String) (after : Array Edge) (g : Option (Nat × Bool)) (a : Act) (w : World) (K : Act → World → Prop) (Q : Exit → Act → World → Prop) :
    Oper.wp Tryd.prog { dst := dst, op := .load 41 x, type := ty, pos := pos, after := after, guard := g } a w K Q =
      (match a.eval x with
      | .pointer (some ⟨b, o, none⟩) =>
        (match w.heap[b]? with
        | some (.cells cs _ _) => if o + 39 ≤ cs.size then K (a.put dst (.agg (cs.extract o (o + 39)))) w else farW Tryd.prog { dst := dst, op := .load 41 x, type := ty, pos := pos, after := after, guard := g } a w K Q
        | _ => farW Tryd.prog { dst := dst, op := .load 41 x, type := ty, pos := pos, after := after, guard := g } a w K Q)
      | _ => farW Tryd.prog { dst := dst, op := .load 41 x, type := ty, pos := pos, after := after, guard := g } a w K Q) := wp_load_rule (d := _) Tryd.underlying41 rfl (by kernel_rfl) dst x ty pos after g a w K Q
theorem alMsg (w : World) : (Instr.alloc 41 true (.tuple #[])).run Tryd.prog w = .ok (.pointer (some ⟨w.heap.size, 0, none⟩)) (w.alloc (.cells zMsg 41)) :=
  run_alloc_row (z := .agg zMsg) (fun w => by kernel_rfl) w
theorem ldSg (w : World) (b o : Nat) : (Instr.loadAt 77 (.pointer (some ⟨b, o, none⟩))).run Tryd.prog w =
      match w.heap[b]? with
      | some (.cells cs _ _) => if o + 64 ≤ cs.size then .ok (.agg (cs.extract o (o + 64))) w else farL Tryd.prog w 77 b o
      | _ => farL Tryd.prog w 77 b o := load_rule (d := _) Tryd.underlying77 rfl (by kernel_rfl) w b o
theorem stSg (w : World) (b o : Nat) (xs : Array Value) : (Instr.storeAt 77 (.pointer (some ⟨b, o, none⟩)) (.agg xs)).run Tryd.prog w =
      match w.heap[b]? with
      | some (.cells cs U (0, 0)) =>
        if o + 64 ≤ cs.size ∧ xs.size = 64 ∧ xs.all (·.oneCell') = true then .ok () (setBlock w b (.cells (if o = 0 ∧ 64 = cs.size then xs else wr cs o xs.toList) U (0, 0))) else farS Tryd.prog w 77 b o (.agg xs)
      | _ => farS Tryd.prog w 77 b o (.agg xs) := store_rule (by kernel_rfl) w b o xs
theorem wlSg (dst : Option Tmp) (x : Operand) (ty : TypeId) (pos : String) (after : Array Edge) (g : Option (Nat × Bool)) (a : Act) (w : World) (K : Act → World → Prop) (Q : Exit → Act → World → Prop) :
    Oper.wp Tryd.prog { dst := dst, op := .load 77 x, type := ty, pos := pos, after := after, guard := g } a w K Q =
      (match a.eval x with
      | .pointer (some ⟨b, o, none⟩) =>
        (match w.heap[b]? with
        | some (.cells cs _ _) => if o + 64 ≤ cs.size then K (a.put dst (.agg (cs.extract o (o + 64)))) w else farW Tryd.prog { dst := dst, op := .load 77 x, type := ty, pos := pos, after := after, guard := g } a w K Q
        | _ => farW Tryd.prog { dst := dst, op := .load 77 x, type := ty, pos := pos, after := after, guard := g } a w K Q)
      | _ => farW Tryd.prog { dst := dst, op := .load 77 x, type := ty, pos := pos, after := after, guard := g } a w K Q) := wp_load_rule (d := _) Tryd.underlying77 rfl (by kernel_rfl) dst x ty pos after g a w K Q
theorem alSg (w : World) : (Instr.alloc 77 true (.tuple #[])).run Tryd.prog w = .ok (.pointer (some ⟨w.heap.size, 0, none⟩)) (w.alloc (.cells zSg 77)) :=
  run_alloc_row (z := .agg zSg) (fun w => by kernel_rfl) w
theorem zMsg_size : zMsg.size = 39 := mx_size _ _ _
section
variable (a1 a2 a3 : Option Addr) (n1 c1 n2 c2 n3 c3 : Nat)
theorem msg_size (k i l : Value) : (msgC k i l).size = 39 := mx_size _ _ _
theorem msg_all (k i l : Value) : (msgC k i l).extract 0 39 = msgC k i l := mx_full rfl
theorem msg_one : (msgC (.slice a1 n1 c1) (.slice a2 n2 c2) (.slice a3 n3 c3)).all (·.oneCell') 0 39 = true := all_of (msg_size _ _ _) (mx_one rfl rfl)
theorem msg_one' : (msgC (.slice a1 n1 c1) (.slice a2 n2 c2) (.slice a3 n3 c3)).all (·.oneCell') = true := mx_one rfl rfl
theorem bldMsg (w : World) : (Instr.build 41 #[(2, .slice a1 n1 c1), (4, .slice a2 n2 c2), (5, .slice a3 n3 c3)]).run Tryd.prog w = .ok (.agg (msgC (.slice a1 n1 c1) (.slice a2 n2 c2) (.slice a3 n3 c3))) w := by kernel_rfl
def txC (s k i l : Value) : Array Value := mx [s, .bool false, u8v 0, u8v 0, u8v 0, k] key0 [i, l]
theorem bldTx (a0 : Option Addr) (n0 c0 : Nat) (w : World) : (Instr.build 43 #[(0, .slice a0 n0 c0), (1, .agg (msgC (.slice a1 n1 c1) (.slice a2 n2 c2) (.slice a3 n3 c3)))]).run Tryd.prog w = .ok (.agg (txC (.slice a0 n0 c0) (.slice a1 n1 c1) (.slice a2 n2 c2) (.slice a3 n3 c3))) w := by kernel_rfl
end
/-- The blocks of what lies so, and their rooms. -/
structure Bk where
  gb : Nat
  cb : Nat
  gs : Nat
  cs : Nat
  gk : Nat
  ck : Nat
  gi : Nat
  ci : Nat
  ga : Nat
  ca : Nat
  gd : Nat
  cd : Nat
  gl : Nat
  cl : Nat
  gw : Nat
  cw : Nat
  gq : Nat
  cq : Nat
  gr : Nat
  cr : Nat
def Bk.all (K : Bk) : List Nat := [K.gb, K.gs, K.gk, K.gi, K.ga, K.gd, K.gl, K.gw, K.gq, K.gr]
def rK (b : List UInt8) (k : Key) (d : List UInt8) (K : Bk) : RdR :=
  ⟨⟨some ⟨K.gb, 0, none⟩, b, K.cb⟩, ⟨some ⟨K.gs, 0, none⟩, [sig1], K.cs⟩, false, 0, 0, 0, ⟨some ⟨K.gk, 0, none⟩, [k], K.ck⟩, key0,
    ⟨some ⟨K.gi, 0, none⟩, [⟨0, ⟨some ⟨K.ga, 0, none⟩, d, K.ca⟩, ⟨some ⟨K.gd, 0, none⟩, d, K.cd⟩⟩], K.ci⟩,
    ⟨some ⟨K.gl, 0, none⟩, [⟨key0, ⟨some ⟨K.gw, 0, none⟩, d, K.cw⟩, ⟨some ⟨K.gq, 0, none⟩, d, K.cq⟩⟩], K.cl⟩,
    ⟨some ⟨K.gr, 0, none⟩, [⟨k, false, false⟩], K.cr⟩, 0, 0, 0, 0, 0, 0⟩
def rC (b : List UInt8) (k : Key) (d : List UInt8) : RdC := ⟨b, [sig1], false, 0, 0, 0, [k], key0, [⟨0, d, d⟩], [⟨key0, d, d⟩], [⟨k, false, false⟩], 0, 0, 0, 0, 0, 0⟩
theorem rK_con (b : List UInt8) (k : Key) (d : List UInt8) (K : Bk) : (rK b k d K).con = rC b k d := rfl
theorem bldReady {b : List UInt8} {n : Nat} (hn : b.length = n) (k : Key) (d : List UInt8) (K : Bk) (w : World) :
    (Instr.build 48 #[(0, .slice (some ⟨K.gb, 0, none⟩) n K.cb), (2, .slice (some ⟨K.gr, 0, none⟩) 1 K.cr), (1, .agg (txC (.slice (some ⟨K.gs, 0, none⟩) 1 K.cs) (.slice (some ⟨K.gk, 0, none⟩) 1 K.ck) (.slice (some ⟨K.gi, 0, none⟩) 1 K.ci) (.slice (some ⟨K.gl, 0, none⟩) 1 K.cl)))]).run Tryd.prog w
      = .ok (.agg (rdr (rK b k d K))) w := by
  subst hn
  kernel_rfl
/-! Bytes appended to nothing. -/
/-- Bytes in a block of their own, from its head on. -/
def By (B n : Nat) (l : List UInt8) (v : Value) : Land := fun T w => ∃ g cap, v = .slice (some ⟨g, 0, none⟩) n cap ∧ NewS uc 1 5 B w (.slice (some ⟨g, 0, none⟩) l.length l.length) l ∧ B ≤ g ∧ T g
theorem goodBy (B n : Nat) (l : List UInt8) (v : Value) : Good (By B n l v) where
  cl := fun T w w' ⟨g, cap, e, h, hb, ht⟩ hm => ⟨g, cap, e, h.mod hm (fun g' hg hn => by cases hg; exact hn ht), hb, ht⟩
  gr := fun T T' w hT ⟨g, cap, e, h, hb, ht⟩ => ⟨g, cap, e, h, hb, hT _ ht⟩
def ByA (K : Land) (B n : Nat) (l : List UInt8) (v : Value) : Land := fun T w => K T w ∧ By B n l v T w
theorem goodByA {K : Land} (hK : Good K) (B n : Nat) (l : List UInt8) (v : Value) : Good (ByA K B n l v) := hK.and (goodBy B n l v)
theorem app_by {K : Land} (gk : Good K) {w : World} {B c n : Nat} {q : List UInt8} {a : Option Addr} {T : Nat → Prop} (kq : K T w) (hs : SlAt uc 1 w a q) (hqn : q.length = n) (hn : q ≠ []) (hq : n ≤ 1000000) (hB : B ≤ w.heap.size) :
    ∃ v w', (Builtin.append_ #[31, 31] 31 #[.slice none 0 0, .slice a n c]).run Tryd.prog w = .ok v w' ∧ Mod T w w' ∧ ByA K B n q v (Grow T w w') w' := by
  subst hqn
  obtain ⟨v, w', hap, hO, m, hne⟩ := SlOwn.append bytesT (c := c) (SlOwn.nil (f := uc) (n := 1) (E := 5) w B) hs (by simpa using hq) (by decide) hB 31
  rw [List.nil_append] at hO
  have m0 : Mod (fun _ => False) w w' := m.mono (fun _ _ e => by cases e)
  have hO' := hO
  refine ⟨v, w', hap, m0.mono (fun _ _ e => e.elim), gk.gr _ _ _ (fun _ h => .inl h) (gk.cl T w w' kq (m0.mono (fun _ _ e => e.elim))), ?_⟩
  rcases hO.2 with ⟨rfl, hz⟩ | ⟨g, cap, cur, rfl, hb, hg, hnc, hcm, hcs, htake⟩
  · exact absurd (List.eq_nil_of_length_eq_zero hz) hn
  · refine ⟨g, cap, rfl, .inr ⟨g, cur, rfl, hb, hg, fun i x hx => ?_⟩, hb, ?_⟩
    · obtain ⟨a2, c2, e, hat, _⟩ := hO'.at bytesT
      injection e with e1 _ _
      subst e1
      obtain ⟨b2, o2, C2, U2, fr2, e2, hb2, he, hle⟩ := hat.block hx
      cases e2
      rw [hg] at hb2
      cases hb2
      simpa using And.intro he hle
    · rcases hne with h | h
      · cases h
      · cases h
        exact .inr ⟨Nat.le_refl _, lt_size hg⟩
theorem By.out {B n g c : Nat} {l : List UInt8} {T : Nat → Prop} {w : World} (h : By B n l (.slice (some ⟨g, 0, none⟩) n c) T w) : NewS uc 1 5 B w (.slice (some ⟨g, 0, none⟩) l.length l.length) l := by
  obtain ⟨g2, c2, e, h2, _⟩ := h
  injection e with e1 _ _
  injection e1 with e1
  injection e1 with e1
  subst e1
  exact h2
theorem NewS.one {α : Type} {f : α → Array Value} {n : Nat} {E : TypeId} {base g : Nat} {w : World} {x : α} (hg : w.heap[g]? = some (.cells (f x) E (0, 0))) (hb : base ≤ g) (hs : (f x).size = n) : NewS f n E base w (.slice (some ⟨g, 0, none⟩) 1 1) [x] := by
  refine .inr ⟨g, f x, rfl, hb, hg, fun i y hy => ?_⟩
  cases i with
  | zero =>
    cases hy
    rw [Nat.zero_mul, Nat.zero_add, hs, ← hs]
    exact ⟨Array.extract_size, Nat.le_refl _⟩
  | succ i => cases hy
/-! What is found. -/
def FdL (base : Nat) (c : It) (v : Value) : Land := fun T w => ∃ z : ItR, v = .tuple #[.agg (itr z), .int .i64 0] ∧ z.con = c ∧ RdNew base w z.r ∧ RdIn T z.r
theorem goodFd (base : Nat) (c : It) (v : Value) : Good (FdL base c v) where
  cl := fun T w w' h hm => by
    obtain ⟨x, e, hc, hn, hi⟩ := h
    exact ⟨x, e, hc, hn.mod hm hi (fun i hi hn => hn hi), hi⟩
  gr := fun T T' w hT h => by
    obtain ⟨x, e, hc, hn, hi⟩ := h
    exact ⟨x, e, hc, hn, hi.mono hT⟩
theorem findL {w0 wq : World} {O : Nat → Prop} {b : Nat} {S : List (Option It)} (H : BH w0 O b S wq) {i : Nat} {x : It} (hx : S[i]? = some (some x)) {base : Nat} (hb : base ≤ wq.heap.size) (T : Nat → Prop) : Calls Tryd.prog 13 #[ptrV b, .int .i64 (i : Int)] wq fun e w' => ∃ v, e = .returned v ∧ Mod (fun _ => False) wq w' ∧ FdL base x v (Grow T wq w') w' :=
  (bfindY_c H hx).mono fun e w' h => by
    obtain ⟨z, hc, hn, he, hm⟩ := h
    exact ⟨_, he, hm, z, rfl, hc, hn.lower hb, hn.inn.mono (fun i hi => .inr hi)⟩
/-! The shape. -/
theorem NewS.row {α : Type} {f : α → Array Value} {n : Nat} {E : TypeId} {base : Nat} {w : World} {a : Option Addr} {l : List α} {m c : Nat} (h : NewS f n E base w (.slice a m c) l) {x : α} (hx : l[0]? = some x) : ∃ g C, a = some ⟨g, 0, none⟩ ∧ base ≤ g ∧ w.heap[g]? = some (.cells C E (0, 0)) ∧ C.extract 0 n = f x ∧ n ≤ C.size := by
  rcases h with ⟨_, rfl⟩ | ⟨g, cur, e, hb, hg, hc⟩
  · cases hx
  · injection e with e1 _ _
    have h2 := hc 0 x hx
    exact ⟨g, cur, e1, hb, hg, by simpa using h2.1, by simpa using h2.2⟩
theorem cell0 {C cs : Array Value} {n : Nat} (he : C.extract 0 n = cs) {j : Nat} {v : Value} (hj : cs[j]? = some v) : C[j]? = some v := by
  have h := cellC (o := 0) (n := n) (by rw [Nat.zero_add]; exact he) hj
  rwa [Nat.zero_add] at h
structure SX (b0 : UInt8) (k : Key) (nd : Nat) (d0 : UInt8) (base : Nat) (w : World) (K : Bk) : Prop where
  fb : ∃ C, w.heap[K.gb]? = some (.cells C 5 (0, 0)) ∧ C[0]? = some (u8v b0)
  fs : ∃ C, w.heap[K.gs]? = some (.cells C 77 (0, 0)) ∧ C.extract 0 64 = sgc sig1 ∧ 64 ≤ C.size
  fk : ∃ C, w.heap[K.gk]? = some (.cells C 69 (0, 0)) ∧ C.extract 0 32 = kc k ∧ 32 ≤ C.size
  fr : ∃ C, w.heap[K.gr]? = some (.cells C 75 (0, 0)) ∧ C.extract 0 34 = rcr ⟨k, false, false⟩ ∧ 34 ≤ C.size
  fi : ∃ C, w.heap[K.gi]? = some (.cells C 71 (0, 0)) ∧ C[0]? = some (u8v 0) ∧ C[1]? = some (.slice (some ⟨K.ga, 0, none⟩) nd K.ca) ∧ C[2]? = some (.slice (some ⟨K.gd, 0, none⟩) nd K.cd)
  fl : ∃ C, w.heap[K.gl]? = some (.cells C 73 (0, 0)) ∧ C[32]? = some (.slice (some ⟨K.gw, 0, none⟩) nd K.cw) ∧ C[33]? = some (.slice (some ⟨K.gq, 0, none⟩) nd K.cq)
  fa : ∃ C, w.heap[K.ga]? = some (.cells C 5 (0, 0)) ∧ C[0]? = some (u8v d0)
  fd : ∃ C, w.heap[K.gd]? = some (.cells C 5 (0, 0)) ∧ C[0]? = some (u8v d0)
  fw : ∃ C, w.heap[K.gw]? = some (.cells C 5 (0, 0)) ∧ C[0]? = some (u8v d0)
  fq : ∃ C, w.heap[K.gq]? = some (.cells C 5 (0, 0)) ∧ C[0]? = some (u8v d0)
  up : ∀ g ∈ K.all, base ≤ g
theorem shape_of {base : Nat} {w : World} {x : RdR} {b d : List UInt8} {k : Key} {b0 d0 : UInt8} (h : RdNew base w x) (hc : x.con = rC b k d) (hb : b[0]? = some b0) (hd : d[0]? = some d0) :
    ∃ K, x = rK b k d K ∧ SX b0 k d.length d0 base w K := by
  obtain ⟨⟨ab, lb, cb⟩, ⟨asg, ls, cs⟩, v0, h0, h1, h2, ⟨ak, lk, ck⟩, rc, ⟨ai, li, ci⟩, ⟨al, ll, cl⟩, ⟨ar, lr, cr⟩, un, pr, bad, fee, cost, prio⟩ := x
  simp only [RdR.con, rC, RdC.mk.injEq] at hc
  obtain ⟨rfl, rfl, rfl, rfl, rfl, rfl, rfl, rfl, hi, hl, rfl, rfl, rfl, rfl, rfl, rfl, rfl⟩ := hc
  obtain ⟨⟨ip, ⟨aa, la, ca⟩, ⟨ad, ld, cd⟩⟩, rfl, hy⟩ := List.map_eq_singleton_iff.1 hi
  obtain ⟨⟨lt, ⟨aw, lw, cw⟩, ⟨aq, lq, cq⟩⟩, rfl, hy2⟩ := List.map_eq_singleton_iff.1 hl
  simp only [InR.con, InC.mk.injEq] at hy
  simp only [LoR.con, LoC.mk.injEq] at hy2
  obtain ⟨rfl, rfl, hld⟩ := hy
  obtain ⟨rfl, hlw, hlq⟩ := hy2
  subst hld
  subst hlw
  subst hlq
  obtain ⟨gb, Cb, e1, ub, kb, xb, sb⟩ := h.b.row hb
  obtain ⟨gs, Cs, e2, us, ks, xs, ss⟩ := h.sg.row (x := sig1) rfl
  obtain ⟨gk, Ck, e3, uk, kk, xk, sk⟩ := h.ks.row (x := k) rfl
  obtain ⟨gi, Ci, e4, ui, ki, xi, si⟩ := h.ins.row rfl
  obtain ⟨gl, Cl, e5, ul, kl, xl, sl⟩ := h.lks.row rfl
  obtain ⟨gr, Cr, e6, ur, kr, xr, sr⟩ := h.ro.row (x := ⟨k, false, false⟩) rfl
  obtain ⟨ga, Ca, e7, ua, ka, xa, sa⟩ := ((h.insB _ (List.mem_singleton.2 rfl)).1).row hd
  obtain ⟨gd, Cd, e8, ud, kd, xd, sd⟩ := ((h.insB _ (List.mem_singleton.2 rfl)).2).row hd
  obtain ⟨gw, Cw, e9, uw, kw, xw, sw⟩ := ((h.lksB _ (List.mem_singleton.2 rfl)).1).row hd
  obtain ⟨gq, Cq, e10, uq, kq, xq, sq⟩ := ((h.lksB _ (List.mem_singleton.2 rfl)).2).row hd
  subst e1
  subst e2
  subst e3
  subst e4
  subst e5
  subst e6
  subst e7
  subst e8
  subst e9
  subst e10
  refine ⟨⟨gb, cb, gs, cs, gk, ck, gi, ci, ga, ca, gd, cd, gl, cl, gw, cw, gq, cq, gr, cr⟩, rfl, ⟨_, kb, cell0 xb rfl⟩, ⟨_, ks, xs, ss⟩, ⟨_, kk, xk, sk⟩, ⟨_, kr, xr, sr⟩, ⟨_, ki, cell0 xi rfl, cell0 xi rfl, cell0 xi rfl⟩, ⟨_, kl, cell0 xl ?_, cell0 xl ?_⟩, ⟨_, ka, cell0 xa rfl⟩, ⟨_, kd, cell0 xd rfl⟩, ⟨_, kw, cell0 xw rfl⟩, ⟨_, kq, cell0 xq rfl⟩, ?_⟩
  · exact kx_get _ _ 0
  · exact kx_get _ _ 1
  · intro g hg
    simp only [Bk.all, List.mem_cons, List.not_mem_nil, or_false] at hg
    rcases hg with rfl | rfl | rfl | rfl | rfl | rfl | rfl | rfl | rfl | rfl <;> assumption
/-- A block of its own kind whose first cell is a byte. -/
def H8 (E : TypeId) (w : World) (g : Nat) : Prop := ∃ C v, w.heap[g]? = some (.cells C E (0, 0)) ∧ C[0]? = some (u8v v)
structure SH (nd B : Nat) (w : World) (K : Bk) : Prop where
  fb : H8 5 w K.gb
  fs : H8 77 w K.gs
  fk : H8 69 w K.gk
  fr : ∃ C, w.heap[K.gr]? = some (.cells C 75 (0, 0)) ∧ 34 ≤ C.size
  fi : ∃ C v, w.heap[K.gi]? = some (.cells C 71 (0, 0)) ∧ C[0]? = some (u8v v) ∧ C[1]? = some (.slice (some ⟨K.ga, 0, none⟩) nd K.ca) ∧ C[2]? = some (.slice (some ⟨K.gd, 0, none⟩) nd K.cd)
  fl : ∃ C, w.heap[K.gl]? = some (.cells C 73 (0, 0)) ∧ C[32]? = some (.slice (some ⟨K.gw, 0, none⟩) nd K.cw) ∧ C[33]? = some (.slice (some ⟨K.gq, 0, none⟩) nd K.cq)
  fa : H8 5 w K.ga
  fd : H8 5 w K.gd
  fw : H8 5 w K.gw
  fq : H8 5 w K.gq
  up : ∀ g ∈ K.all, B ≤ g
theorem kc0 (k : Key) : ∃ v : UInt8, (kc k)[0]? = some (u8v v) := by
  obtain ⟨x, hx⟩ : ∃ x, k.l[0]? = some x := ⟨_, List.getElem?_eq_getElem (by rw [k.h]; omega)⟩
  exact ⟨x, by simp [kc, hx, bc]⟩
theorem SX.sh {b0 : UInt8} {k : Key} {nd : Nat} {d0 : UInt8} {base B : Nat} {w : World} {K : Bk} (h : SX b0 k nd d0 base w K) (hB : B ≤ base) : SH nd B w K := by
  obtain ⟨v, hv⟩ := kc0 k
  obtain ⟨C1, a1, b1⟩ := h.fb
  obtain ⟨C2, a2, b2, _⟩ := h.fs
  obtain ⟨C3, a3, b3, _⟩ := h.fk
  obtain ⟨C4, a4, _, b4⟩ := h.fr
  obtain ⟨C5, a5, b5⟩ := h.fi
  obtain ⟨C6, a6, b6⟩ := h.fa
  obtain ⟨C7, a7, b7⟩ := h.fd
  obtain ⟨C8, a8, b8⟩ := h.fw
  obtain ⟨C9, a9, b9⟩ := h.fq
  exact ⟨⟨_, _, a1, b1⟩, ⟨_, 1, a2, cell0 b2 rfl⟩, ⟨_, v, a3, cell0 b3 hv⟩, ⟨_, a4, b4⟩, ⟨_, 0, a5, b5⟩, h.fl, ⟨_, _, a6, b6⟩, ⟨_, _, a7, b7⟩, ⟨_, _, a8, b8⟩, ⟨_, _, a9, b9⟩, fun g hg => Nat.le_trans hB (h.up g hg)⟩
section
variable {w w' : World} {g g' nd B : Nat} {C C' : Array Value} {E E' : TypeId} {K : Bk} {v v' : UInt8}
theorem off_ty {fr fr' : Nat × Nat} (hC : w.heap[g']? = some (.cells C' E' fr')) (hg : w.heap[g]? = some (.cells C E fr)) (hne : E' ≠ E) (hm : Mod (fun i => i = g) w w') : w'.heap[g']? = some (.cells C' E' fr') :=
  hm.at hC (fun e => by
    have e2 : g' = g := e
    subst e2
    rw [hg] at hC
    cases hC
    exact hne rfl)
theorem H8.off (h : H8 E' w g') (hg : w.heap[g]? = some (.cells C E (0, 0))) (hne : E' ≠ E) (hm : Mod (fun i => i = g) w w') : H8 E' w' g' := by
  obtain ⟨C2, x, h1, h2⟩ := h
  exact ⟨C2, x, off_ty h1 hg hne hm, h2⟩
theorem H8.st (h : H8 E' w g') (hg : w.heap[g]? = some (.cells C E (0, 0))) (h0 : C[0]? = some (u8v v)) (hm : Mod (fun i => i = g) w w') (hg' : w'.heap[g]? = some (.cells (C.setIfInBounds 0 (u8v v')) E (0, 0))) : H8 E' w' g' := by
  obtain ⟨C2, x, h1, h2⟩ := h
  by_cases e : g' = g
  · subst e
    rw [hg] at h1
    cases h1
    exact ⟨_, v', hg', Array.getElem?_setIfInBounds_self_of_lt (Array.getElem?_eq_some_iff.1 h0).1⟩
  · exact ⟨C2, x, hm.at h1 e, h2⟩
theorem SH.mod0 (H : SH nd B w K) (hm : Mod (fun _ => False) w w') : SH nd B w' K := by
  have h8 : ∀ {E g}, H8 E w g → H8 E w' g := fun ⟨C, v, h1, h2⟩ => ⟨C, v, hm.at0 h1, h2⟩
  obtain ⟨C4, a4, b4⟩ := H.fr
  obtain ⟨C5, v5, a5, b5⟩ := H.fi
  obtain ⟨C6, a6, b6⟩ := H.fl
  exact ⟨h8 H.fb, h8 H.fs, h8 H.fk, ⟨C4, hm.at0 a4, b4⟩, ⟨C5, v5, hm.at0 a5, b5⟩, ⟨C6, hm.at0 a6, b6⟩, h8 H.fa, h8 H.fd, h8 H.fw, h8 H.fq, H.up⟩
theorem SH.st8 (H : SH nd B w K) (hg : w.heap[g]? = some (.cells C E (0, 0))) (h0 : C[0]? = some (u8v v)) (hE : E ≠ 75 ∧ E ≠ 71 ∧ E ≠ 73) (hm : Mod (fun i => i = g) w w') (hg' : w'.heap[g]? = some (.cells (C.setIfInBounds 0 (u8v v')) E (0, 0))) : SH nd B w' K := by
  have h8 : ∀ {E g}, H8 E w g → H8 E w' g := fun h => h.st hg h0 hm hg'
  obtain ⟨C4, a4, b4⟩ := H.fr
  obtain ⟨C5, v5, a5, b5⟩ := H.fi
  obtain ⟨C6, a6, b6⟩ := H.fl
  exact ⟨h8 H.fb, h8 H.fs, h8 H.fk, ⟨C4, off_ty a4 hg hE.1.symm hm, b4⟩, ⟨C5, v5, off_ty a5 hg hE.2.1.symm hm, b5⟩, ⟨C6, off_ty a6 hg hE.2.2.symm hm, b6⟩, h8 H.fa, h8 H.fd, h8 H.fw, h8 H.fq, H.up⟩
theorem SH.stR (H : SH nd B w K) (hg : w.heap[g]? = some (.cells C 75 (0, 0))) (hm : Mod (fun i => i = g) w w') (hg' : w'.heap[g]? = some (.cells C' 75 (0, 0))) (hs : 34 ≤ C'.size) : SH nd B w' K := by
  have h8 : ∀ {E g}, E ≠ 75 → H8 E w g → H8 E w' g := fun hne h => h.off hg hne hm
  obtain ⟨C4, a4, b4⟩ := H.fr
  obtain ⟨C5, v5, a5, b5⟩ := H.fi
  obtain ⟨C6, a6, b6⟩ := H.fl
  refine ⟨h8 (by decide) H.fb, h8 (by decide) H.fs, h8 (by decide) H.fk, ?_, ⟨C5, v5, off_ty a5 hg (by decide) hm, b5⟩, ⟨C6, off_ty a6 hg (by decide) hm, b6⟩, h8 (by decide) H.fa, h8 (by decide) H.fd, h8 (by decide) H.fw, h8 (by decide) H.fq, H.up⟩
  by_cases e : K.gr = g
  · exact ⟨C', by rw [e]; exact hg', hs⟩
  · exact ⟨C4, hm.at a4 e, b4⟩
theorem SH.stI (H : SH nd B w K) (hg : w.heap[K.gi]? = some (.cells C 71 (0, 0))) (h0 : C[0]? = some (u8v v)) (hm : Mod (fun i => i = K.gi) w w') (hg' : w'.heap[K.gi]? = some (.cells (C.setIfInBounds 0 (u8v v')) 71 (0, 0))) : SH nd B w' K := by
  have h8 : ∀ {E g}, E ≠ 71 → H8 E w g → H8 E w' g := fun hne h => h.off hg hne hm
  obtain ⟨C4, a4, b4⟩ := H.fr
  obtain ⟨C5, v5, a5, b5, b6, b7⟩ := H.fi
  obtain ⟨C6, a6, b8⟩ := H.fl
  rw [hg] at a5
  cases a5
  refine ⟨h8 (by decide) H.fb, h8 (by decide) H.fs, h8 (by decide) H.fk, ⟨C4, off_ty a4 hg (by decide) hm, b4⟩, ⟨_, v', hg', Array.getElem?_setIfInBounds_self_of_lt (Array.getElem?_eq_some_iff.1 h0).1, ?_, ?_⟩, ⟨C6, off_ty a6 hg (by decide) hm, b8⟩, h8 (by decide) H.fa, h8 (by decide) H.fd, h8 (by decide) H.fw, h8 (by decide) H.fq, H.up⟩
  · rw [Array.getElem?_setIfInBounds_ne (by omega)]
    exact b6
  · rw [Array.getElem?_setIfInBounds_ne (by omega)]
    exact b7
end
theorem SH.lt {nd B : Nat} {w : World} {K : Bk} (H : SH nd B w K) : ∀ g ∈ K.all, g < w.heap.size := by
  have h8 : ∀ {E g}, H8 E w g → g < w.heap.size := fun ⟨C, v, h1, h2⟩ => lt_size h1
  obtain ⟨C4, a4, b4⟩ := H.fr
  obtain ⟨C5, v5, a5, b5⟩ := H.fi
  obtain ⟨C6, a6, b6⟩ := H.fl
  intro g hg
  simp only [Bk.all, List.mem_cons, List.not_mem_nil, or_false] at hg
  rcases hg with rfl | rfl | rfl | rfl | rfl | rfl | rfl | rfl | rfl | rfl
  · exact h8 H.fb
  · exact h8 H.fs
  · exact h8 H.fk
  · exact lt_size a5
  · exact h8 H.fa
  · exact h8 H.fd
  · exact lt_size a6
  · exact h8 H.fw
  · exact h8 H.fq
  · exact lt_size a4
theorem LS.base {w0 w1 w : World} {b : Nat} {S : List (Option It)} {T : Nat → Prop} (H : LS w1 b S T w) (hm : Mod (fun _ => False) w0 w1) : LS w0 b S T w :=
  ⟨H.bo, fun i hi => Nat.le_trans hm.size (H.up i hi), hm.then0 H.m, H.tab⟩
theorem u8_inc (v : UInt8) : ∃ v' : UInt8, IntKind.u8.wrap ((v.toNat : Int) + 1) = (v'.toNat : Int) :=
  ⟨v + 1, by
    have := v.toNat_lt
    have h1 : (1 : UInt8).toNat = 1 := rfl
    rw [IntKind.wrap_u8, UInt8.toNat_add, h1]
    omega⟩
/-- The buffer, and what lies so beside it. -/
structure LP (w : World) (b : Nat) (S : List (Option It)) (T : Nat → Prop) (nd B : Nat) (K : Bk) (ws : World) : Prop where
  ls : LS w b S T ws
  sh : SH nd B ws K
  ex : ∀ g ∈ K.all, ¬ T g
  b0 : w.heap.size ≤ B ∧ 0 < B
section
variable {w ws wE w' : World} {b : Nat} {S : List (Option It)} {T : Nat → Prop} {nd B g : Nat} {K : Bk} {C C' : Array Value} {E : TypeId} {v v' : UInt8}
theorem LP.ls8 (H : LP w b S T nd B K ws) (m0 : Mod (fun _ => False) ws wE) (hK : g ∈ K.all) (hm : Mod (fun i => i = g) wE w') : LS w b S T w' :=
  (H.ls.mod0 m0).modX hm (fun i hi e => H.ex g hK (e ▸ hi)) (fun i e => e ▸ Nat.le_trans H.b0.1 (H.sh.up g hK)) (fun e => by have h1 := H.sh.up g hK; have h2 := H.b0.2; omega)
theorem LP.mod0 (H : LP w b S T nd B K ws) (m0 : Mod (fun _ => False) ws w') : LP w b S T nd B K w' := ⟨H.ls.mod0 m0, H.sh.mod0 m0, H.ex, H.b0⟩
theorem LP.st8 (H : LP w b S T nd B K ws) (m0 : Mod (fun _ => False) ws wE) (hg : ws.heap[g]? = some (.cells C E (0, 0))) (h0 : C[0]? = some (u8v v)) (hK : g ∈ K.all) (hE : E ≠ 75 ∧ E ≠ 71 ∧ E ≠ 73) (hm : Mod (fun i => i = g) wE w') (hg' : w'.heap[g]? = some (.cells (C.setIfInBounds 0 (u8v v')) E (0, 0))) : LP w b S T nd B K w' :=
  ⟨H.ls8 m0 hK hm, (H.sh.mod0 m0).st8 (m0.at0 hg) h0 hE hm hg', H.ex, H.b0⟩
theorem LP.stR (H : LP w b S T nd B K ws) (m0 : Mod (fun _ => False) ws wE) (hg : ws.heap[g]? = some (.cells C 75 (0, 0))) (hK : g ∈ K.all) (hm : Mod (fun i => i = g) wE w') (hg' : w'.heap[g]? = some (.cells C' 75 (0, 0))) (hs : 34 ≤ C'.size) : LP w b S T nd B K w' :=
  ⟨H.ls8 m0 hK hm, (H.sh.mod0 m0).stR (m0.at0 hg) hm hg' hs, H.ex, H.b0⟩
theorem LP.stI (H : LP w b S T nd B K ws) (m0 : Mod (fun _ => False) ws wE) (hg : ws.heap[K.gi]? = some (.cells C 71 (0, 0))) (h0 : C[0]? = some (u8v v)) (hm : Mod (fun i => i = K.gi) wE w') (hg' : w'.heap[K.gi]? = some (.cells (C.setIfInBounds 0 (u8v v')) 71 (0, 0))) : LP w b S T nd B K w' :=
  ⟨H.ls8 m0 (by simp [Bk.all]) hm, (H.sh.mod0 m0).stI (m0.at0 hg) h0 hm hg', H.ex, H.b0⟩
end
theorem SH.modX {nd B : Nat} {w w' : World} {K : Bk} {X : Nat → Prop} (H : SH nd B w K) (hm : Mod X w w') (hX : ∀ g ∈ K.all, ¬ X g) : SH nd B w' K := by
  have h8 : ∀ {E g}, g ∈ K.all → H8 E w g → H8 E w' g := fun hg ⟨C, v, h1, h2⟩ => ⟨C, v, hm.at h1 (hX _ hg), h2⟩
  obtain ⟨C4, a4, b4⟩ := H.fr
  obtain ⟨C5, v5, a5, b5⟩ := H.fi
  obtain ⟨C6, a6, b6⟩ := H.fl
  exact ⟨h8 (by simp [Bk.all]) H.fb, h8 (by simp [Bk.all]) H.fs, h8 (by simp [Bk.all]) H.fk, ⟨C4, hm.at a4 (hX _ (by simp [Bk.all])), b4⟩, ⟨C5, v5, hm.at a5 (hX _ (by simp [Bk.all])), b5⟩, ⟨C6, hm.at a6 (hX _ (by simp [Bk.all])), b6⟩, h8 (by simp [Bk.all]) H.fa, h8 (by simp [Bk.all]) H.fd, h8 (by simp [Bk.all]) H.fw, h8 (by simp [Bk.all]) H.fq, H.up⟩
theorem LP.next {w ws w2 wE w' : World} {b : Nat} {S : List (Option It)} {T : Nat → Prop} {nd B bs p : Nat} {K K2 : Bk} {b0 d0 : UInt8} {k : Key} (H : LP w b S T nd B K ws) (h : SX b0 k nd d0 bs w2 K2) (hb : bs = ws.heap.size) (m1 : Mod (fun _ => False) ws w2) (m2 : Mod (fun _ => False) w2 wE) (hm : Mod (fun i => i = p) wE w') (hp : ¬ T p ∧ B ≤ p) (hp2 : p < bs) : LP w b S T nd B K2 w' :=
  ⟨(H.ls.mod0 (m1.then0 m2)).modX hm (fun i hi e => hp.1 (e ▸ hi)) (fun i e => e ▸ Nat.le_trans H.b0.1 hp.2) (fun e => by have h1 := hp.2; have h2 := H.b0.2; omega),
    ((h.sh (by omega)).mod0 m2).modX hm (fun g hg e => by have h1 := h.up g hg; have h2 : g = p := e; omega), fun g hg ht => by have h1 := h.up g hg; have h2 := H.ls.bo.lt g ht; omega, H.b0⟩
/-- The rows of what is told. -/
theorem rK_rows (b : List UInt8) (k : Key) (d : List UInt8) (K : Bk) : ∃ R : Array Value, R = rdr (rK b k d K) ∧ R.size = 48 ∧ R[0]? = some (.slice (some ⟨K.gb, 0, none⟩) b.length K.cb) ∧ R[1]? = some (.slice (some ⟨K.gs, 0, none⟩) 1 K.cs) ∧ R[6]? = some (.slice (some ⟨K.gk, 0, none⟩) 1 K.ck) ∧ R[39]? = some (.slice (some ⟨K.gi, 0, none⟩) 1 K.ci) ∧ R[40]? = some (.slice (some ⟨K.gl, 0, none⟩) 1 K.cl) ∧ R[41]? = some (.slice (some ⟨K.gr, 0, none⟩) 1 K.cr) :=
  ⟨_, rfl, rdr_size _, rdr0 _, rdr1 _, rdr6 _, rdr39 _, rdr40 _, rdr41 _⟩
theorem ext_get {C : Array Value} {o n j : Nat} {v : Value} (h : C[o + j]? = some v) (hj : j < n) : (C.extract o (o + n))[j]? = some v := by
  have h1 := (Array.getElem?_eq_some_iff.1 h).1
  rw [Array.getElem?_extract_of_lt (by omega)]
  rw [← h]
  exact (Array.getElem?_eq_getElem h1).symm
theorem itr_at (y : ItR) {j : Nat} {v : Value} (h : (rdr y.r)[j]? = some v) : (itr y)[1 + j]? = some v := cellC (o := 1) (n := 48) (itr_r y) h
theorem ext_all {C : Array Value} {o n : Nat} (h : C.all (·.oneCell') = true) (hn : o + n ≤ C.size) : (C.extract o (o + n)).all (·.oneCell') 0 n = true := by
  refine all_of (by rw [Array.size_extract]; omega) ?_
  rw [Array.all_eq_true_iff_forall_mem] at h ⊢
  intro v hv
  rw [← Array.mem_toList_iff, Array.toList_extract] at hv
  exact h v (Array.mem_toList_iff.1 (List.mem_of_mem_drop (List.mem_of_mem_take hv)))
/-- The rows of what is found. -/
theorem itK_rows (n : UInt64) (b : List UInt8) (k : Key) (d : List UInt8) (K : Bk) (pl : UInt8) (s : Bool) : ∃ Y M : Array Value, Y = itr ⟨n, rK b k d K, pl, s⟩ ∧ Y.size = 51 ∧ Y.extract 3 42 = M ∧ M.size = 39 ∧ M.all (·.oneCell') 0 39 = true ∧ Y.extract 1 49 = rdr (rK b k d K) ∧
    Y[1]? = some (.slice (some ⟨K.gb, 0, none⟩) b.length K.cb) ∧ Y[2]? = some (.slice (some ⟨K.gs, 0, none⟩) 1 K.cs) ∧ Y[42]? = some (.slice (some ⟨K.gr, 0, none⟩) 1 K.cr) ∧
    M[4]? = some (.slice (some ⟨K.gk, 0, none⟩) 1 K.ck) ∧ M[37]? = some (.slice (some ⟨K.gi, 0, none⟩) 1 K.ci) ∧ M[38]? = some (.slice (some ⟨K.gl, 0, none⟩) 1 K.cl) :=
  ⟨_, _, rfl, itr_size _, rfl, by rw [Array.size_extract, itr_size]; rfl, ext_all (o := 3) (n := 39) (itr_one' _) (by rw [itr_size]; omega), itr_r _, itr_at (j := 0) _ (rdr0 _), itr_at (j := 1) _ (rdr1 _), itr_at (j := 41) _ (rdr41 _),
    ext_get (o := 3) (n := 39) (j := 4) (itr_at (j := 6) _ (rdr6 _)) (by omega), ext_get (o := 3) (n := 39) (j := 37) (itr_at (j := 39) _ (rdr39 _)) (by omega), ext_get (o := 3) (n := 39) (j := 38) (itr_at (j := 40) _ (rdr40 _)) (by omega)⟩
end Go.Proofs.YtdeghpmlhcaedaaDoor
