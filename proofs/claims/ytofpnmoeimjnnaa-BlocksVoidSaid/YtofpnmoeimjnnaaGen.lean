/- Laws over any program for walks: slices of any elements, read and owned; regions in their text's order. -/
import Derived.Test.YtofpnmoeimjnnaaKeys
import Derived.Test.YtofpnmoeimjnnaaReg
import Derived.Test.YtofpnmoeimjnnaaIter
import Derived.ProofKit
import Derived.OpenShut
import Derived.SizedLaws
import Derived.Maps.AppendAt
import Derived.Laws.OwnMore
import Derived.Great.BuildSlice
import Derived.ArgAppend
import Derived.WalkLawsBesides
import Derived.Lib.Hide
import Derived.Deep.DeepCutAuto
import Derived.Deep.CutRange
import Derived.Laws.BitsAllLaws
namespace Go.Proofs.Ytofpnmoeimjnnaa
set_option linter.unusedVariables false
set_option linter.unusedSimpArgs false
set_option linter.unusedSectionVars false
open Go.ChangeShapes Go.WideShapes Go.ChangeAt Go.RowKit
open Go.ChangeMaps (setBlock)
/-- The cells of a row, read one by one. -/
theorem cells_row {w : World} {base : Nat} {a : Addr} {n : Nat} {cs : List Value} (h : w.cells? base a n = some cs) (hn : 0 < n) :
    cs.length = n ∧ ∃ C U fr, a = ⟨a.block, a.off, none⟩ ∧ w.heap[a.block]? = some (.cells C U fr) ∧ C.extract a.off (a.off + n) = cs.toArray ∧ a.off + n ≤ C.size := by
  obtain ⟨_, hl, hc⟩ := World.cells?_some h
  refine ⟨hl, ?_⟩
  have h0 := hc 0 hn
  rw [show a.add 0 = a from rfl] at h0
  have hs : w.cell? a = some cs[0] := by rw [h0, List.getElem?_eq_getElem (by omega)]
  have hsp := World.cell?_spot hs
  obtain ⟨b, o, sp⟩ := a
  cases hsp
  cases hb : w.heap[b]? with
  | none => simp [World.cell?, hb] at hs
  | some ob =>
    cases ob with
    | cells C U fr =>
      have hcell : ∀ i, i < n → C[o + i]? = cs[i]? := fun i hi => by
        have := hc i hi
        rw [← this]
        unfold Addr.add
        by_cases hi0 : i = 0
        · subst hi0
          simp [World.cell?, hb]
        · rw [if_neg hi0]
          simp [World.cell?, hb]
      have hsz : o + n ≤ C.size := by
        have h1 := hcell (n - 1) (by omega)
        rw [List.getElem?_eq_getElem (by omega)] at h1
        have := (Array.getElem?_eq_some_iff.1 h1).1
        omega
      refine ⟨C, U, fr, rfl, rfl, ?_, hsz⟩
      apply Array.ext_getElem?
      intro i
      simp only [Array.getElem?_extract, List.getElem?_toArray]
      by_cases hi : i < n
      · rw [if_pos (by omega), hcell i hi]
      · rw [if_neg (by omega), List.getElem?_eq_none (by omega)]
    | _ => simp [World.cell?, hb] at hs
theorem take1 {l : List Value} {n : Nat} {v : Value} (h : (l.drop n).take 1 = [v]) : l[n]? = some v := by
  have := congrArg (fun l => l[0]?) h
  simpa using this
/-! A region whose order is its text's, operation by operation. -/
section
variable {P : Program} {ops : Array Oper} {Q : Exit → Act → World → Prop}
theorem region_seq {id : Nat} {a : Act} {w : World} (n : Nat) (hn : ops.size = n) (h : wpOps P ops Q (List.range n) a w) : (Code.region id ops false).wp P Q a w := by
  refine wp_region ?_
  rw [hn]
  exact h
theorem sq_nil {a : Act} {w : World} (h : Q .normal a w) : wpOps P ops Q [] a w := h
theorem sq_eff {i : Nat} {r : List Nat} {a : Act} {o : Oper} {w w' : World} {v : Value} (ho : ops[i]? = some o) (hw : Region.wanted o (yielded ops a.tmps) = true)
    (hr : (execOp a.eval o).run P w = .ok (.value v) w') (h : wpOps P ops Q r (a.put o.dst v) w') : wpOps P ops Q (i :: r) a w := by
  unfold wpOps
  simp only [ho, hw, if_true]
  refine .inl ?_
  unfold Oper.wp
  rw [hr]
  exact h
theorem sq_val {i : Nat} {r : List Nat} {a : Act} {o : Oper} {w : World} {v : Value} (ho : ops[i]? = some o) (hw : Region.wanted o (yielded ops a.tmps) = true)
    (hr : (execOp a.eval o).run P w = .ok (.value v) w) (h : wpOps P ops Q r (a.put o.dst v) w) : wpOps P ops Q (i :: r) a w := sq_eff ho hw hr h
theorem sq_load {i : Nat} {r : List Nat} {a : Act} {o : Oper} {w : World} {T : TypeId} {x : Operand} {p v : Value} (ho : ops[i]? = some o) (hw : Region.wanted o (yielded ops a.tmps) = true)
    (hop : o.op = .load T x) (hx : a.eval x = p) (hr : (Instr.loadAt T p).run P w = .ok v w) (h : wpOps P ops Q r (a.put o.dst v) w) : wpOps P ops Q (i :: r) a w :=
  sq_eff ho hw (by subst hx; simp [execOp, hop, hr]) h
theorem sq_build {i : Nat} {r : List Nat} {a : Act} {o : Oper} {w w' : World} {v : Value} {T : TypeId} {n : Nat} {ps : Array (Nat × Operand)} {qs : Array (Nat × Value)} (ho : ops[i]? = some o) (hw : Region.wanted o (yielded ops a.tmps) = true)
    (hop : o.op = .buildSlice T n ps) (hps : ps.map (fun (i, x) => (i, a.eval x)) = qs) (hr : (Instr.buildSlice T n qs).run P w = .ok v w') (h : wpOps P ops Q r (a.put o.dst v) w') : wpOps P ops Q (i :: r) a w :=
  sq_eff ho hw (by subst hps; simp [execOp, hop, hr]) h
theorem sq_append {i : Nat} {r : List Nat} {a : Act} {o : Oper} {w w' : World} {v u v' : Value} {t : TypeId} {s x : Operand} (ho : ops[i]? = some o) (hw : Region.wanted o (yielded ops a.tmps) = true)
    (hop : o.op = .call { callee := .builtin .append, args := #[s, x], argTypes := #[t, t] }) (hs : a.eval s = v) (hx : a.eval x = u) (hr : (Builtin.append_ #[t, t] o.type #[v, u]).run P w = .ok v' w')
    (h : wpOps P ops Q r (a.put o.dst v') w') : wpOps P ops Q (i :: r) a w :=
  sq_eff ho hw (by
    unfold execOp
    simp only [hop, resolve, invoke, builtin, Sem.run_bind, Sem.run_pure, Result.andThen_ok, List.map_toArray, List.map_cons, List.map_nil, hs, hx, hr]) h
end
theorem sq_slice1 {P : Program} {ops : Array Oper} {Q : Exit → Act → World → Prop} {i : Nat} {r : List Nat} {a : Act} {o : Oper} {w : World} {T : TypeId} {s x : Operand} {v u v' : Value} (ho : ops[i]? = some o) (hw : Region.wanted o (yielded ops a.tmps) = true)
    (hop : o.op = .slice T s (some x) none none) (hs : a.eval s = v) (hx : a.eval x = u) (hr : (Instr.sliceAt T v (some u) none none).run P w = .ok v' w) (h : wpOps P ops Q r (a.put o.dst v') w) : wpOps P ops Q (i :: r) a w :=
  sq_val ho hw (by subst hs; subst hx; simp [execOp, hop, hr]) h
/-- A slice: where it lies, what it holds, its capacity. -/
structure Sl (α : Type) where
  a : Option Addr
  l : List α
  c : Nat
def Sl.v {α : Type} (s : Sl α) : Value := .slice s.a s.l.length s.c
section
variable {α : Type} {f : α → Array Value} {n : Nat}
/-- The elements l lie at a. -/
def SlAt (f : α → Array Value) (n : Nat) (w : World) (a : Option Addr) (l : List α) : Prop :=
  l = [] ∨ ∃ b o C U fr, a = some ⟨b, o, none⟩ ∧ w.heap[b]? = some (.cells C U fr) ∧
    ∀ i x, l[i]? = some x → C.extract (o + i * n) (o + i * n + n) = f x ∧ o + i * n + n ≤ C.size
theorem SlAt.mod {w w' : World} {a : Option Addr} {l : List α} {S : Nat → Prop} (h : SlAt f n w a l) (hm : Mod S w w') (hS : ∀ b o, a = some ⟨b, o, none⟩ → ¬ S b) : SlAt f n w' a l := by
  rcases h with h | ⟨b, o, C, U, fr, ha, hb, hc⟩
  · exact .inl h
  · exact .inr ⟨b, o, C, U, fr, ha, hm.at hb (hS b o ha), hc⟩
theorem SlAt.mod0 {w w' : World} {a : Option Addr} {l : List α} (h : SlAt f n w a l) (hm : Mod (fun _ => False) w w') : SlAt f n w' a l := h.mod hm (fun _ _ _ h => h)
/-- What changes maps alone leaves it. -/
theorem SlAt.modM {w w' : World} {a : Option Addr} {l : List α} {S : Nat → Prop} (h : SlAt f n w a l) (hm : Mod S w w') (hS : ∀ b, S b → ∀ C U fr, w.heap[b]? ≠ some (.cells C U fr)) : SlAt f n w' a l := by
  rcases h with h | ⟨b, o, C, U, fr, ha, hb, hc⟩
  · exact .inl h
  · exact .inr ⟨b, o, C, U, fr, ha, hm.at hb (fun hs => hS b hs _ _ _ hb), hc⟩
theorem SlAt.block {w : World} {a : Option Addr} {l : List α} (h : SlAt f n w a l) {i : Nat} {x : α} (hx : l[i]? = some x) : ∃ b o C U fr, a = some ⟨b, o, none⟩ ∧ w.heap[b]? = some (.cells C U fr) ∧
    C.extract (o + i * n) (o + i * n + n) = f x ∧ o + i * n + n ≤ C.size := by
  rcases h with rfl | ⟨b, o, C, U, fr, ha, hb, hc⟩
  · simp at hx
  · exact ⟨b, o, C, U, fr, ha, hb, hc i x hx⟩
theorem cell_in {w : World} {b o n : Nat} {C : Array Value} {U : TypeId} {fr : Nat × Nat} {cs : Array Value} (hb : w.heap[b]? = some (.cells C U fr)) (he : C.extract o (o + n) = cs) {j : Nat} {v : Value} (hj : cs[j]? = some v) :
    w.cell? ⟨b, o + j, none⟩ = some v := by
  subst he
  rw [Array.getElem?_extract] at hj
  split at hj
  · unfold World.cell?
    rw [hb]
    simpa using hj
  · cases hj
theorem cellC {o n : Nat} {C cs : Array Value} (he : C.extract o (o + n) = cs) {j : Nat} {v : Value} (hj : cs[j]? = some v) : C[o + j]? = some v := by
  subst he
  rw [Array.getElem?_extract] at hj
  split at hj
  · exact hj
  · cases hj
end
section
variable {H : Type} {enc : TypeId × Value → H} {α β : Type} {P : Program}
abbrev fits (P : Program) (t : TypeId) (d : DataW H) : Prop := ∀ n ∈ d.weights P t, n ≤ reachBytes
/-- Each reading at type t is an f a, with Ok. -/
def Reads (enc : TypeId × Value → H) (P : Program) (t : TypeId) (f : α → Array Value) (Ok : World → α → Prop) : Prop :=
  ∀ (w : World) (base : Nat) (sp : Nat → Bool) (held : Bool) (fuel : Nat) (cs : List Value) (x : DataW H × List MemPlace), DataW.trod enc P w base sp held fuel t cs = some x → fits P t x.1 → ∃ a : α, cs.toArray = f a ∧ Ok w a
def slv (s : Sl α) : Array Value := #[s.v]
def SlOk (f : α → Array Value) (n B : Nat) (Ok : World → α → Prop) (w : World) (s : Sl α) : Prop :=
  SlAt f n w s.a s.l ∧ (∀ x ∈ s.l, Ok w x) ∧ s.l.length * B ≤ reachBytes ∧ (∀ y, s.a = some y → y.block < w.heap.size ∨ s.l = []) ∧ s.l.length ≤ maxLen
theorem weights_all {t : TypeId} : ∀ {ds : List (DataW H)} {d : DataW H}, d ∈ ds → ∀ n ∈ d.weights P t, n ∈ DataW.weightsAll P t ds
  | d0 :: ds, d, hd, n, hn => by
    simp only [DataW.weightsAll, List.mem_append]
    rcases List.mem_cons.1 hd with rfl | hd
    · exact .inl hn
    · exact .inr (weights_all hd n hn)
theorem slice_reads {t e : TypeId} {f : α → Array Value} {n B : Nat} {Ok : World → α → Prop} (ht : P.underlying t = some (.slice e)) (hn : P.cellsOf e = n) (hB : P.bytesOf e = B) (hn0 : 0 < n) (h : Reads enc P e f Ok) (d0 : α) :
    Reads enc P t (slv (α := α)) (SlOk f n B Ok) := by
  intro w base sp held fuel cs x hx hfit
  rcases DataW.trod_slice ht hx with ⟨rfl, rfl⟩ | ⟨a, len, cap, elems, rest, m, rfl, rfl, rfl, _, hlc, hcm, hel, hi, _⟩
  · exact ⟨⟨none, [], 0⟩, rfl, .inl rfl, fun x hx => (by simp at hx), by simp, fun y hy => (by cases hy), by simp⟩
  · have hrow : ∀ i, i < len → ∃ r : α, Ok w r ∧ ∃ (C : Array Value) (U : TypeId) (fr : Nat × Nat), a = ⟨a.block, a.off, none⟩ ∧ w.heap[a.block]? = some (.cells C U fr) ∧ C.extract (a.off + i * n) (a.off + i * n + n) = f r ∧ a.off + i * n + n ≤ C.size := fun i hlt => by
      have hq := hi i hlt
      rw [List.getElem?_eq_getElem (by omega), hn, Option.bind_eq_some_iff] at hq
      obtain ⟨c1, hc1, ht1⟩ := hq
      have hf1 : fits P e (elems[i].1) := fun k hk => hfit k (by
        simp only [DataW.weights, ht, List.mem_cons, List.mem_append]
        exact .inr (.inl (weights_all (List.mem_map.2 ⟨_, List.getElem_mem _, rfl⟩) k hk)))
      obtain ⟨r, hr, hok⟩ := h _ _ _ _ _ _ _ ht1 hf1
      obtain ⟨_, C, U, fr, ha, hb, he, hsz⟩ := cells_row hc1 hn0
      rw [hr] at he
      unfold Addr.add at ha hb he hsz
      by_cases h0 : i * n = 0
      · rw [if_pos h0] at ha hb he hsz
        exact ⟨r, hok, C, U, fr, ha, hb, by rw [h0]; exact he, by omega⟩
      · rw [if_neg h0] at ha hb he hsz
        have hi0 : 0 < i := by
          rcases Nat.eq_zero_or_pos i with rfl | h
          · simp at h0
          · exact h
        have hq0 := hi 0 (by omega)
        rw [List.getElem?_eq_getElem (by omega), hn, Option.bind_eq_some_iff] at hq0
        obtain ⟨c2, hc2, _⟩ := hq0
        obtain ⟨_, _, _, _, ha2, _⟩ := cells_row hc2 hn0
        have ha3 : a = ⟨a.block, a.off, none⟩ := by
          unfold Addr.add at ha2
          rw [if_pos (by simp)] at ha2
          exact ha2
        exact ⟨r, hok, C, U, fr, ha3, hb, he, hsz⟩
    let g : Nat → α := fun i => if hlt : i < len then (hrow i hlt).choose else d0
    have hg : ∀ i (hlt : i < len), g i = (hrow i hlt).choose := fun i hlt => by
      show (if hlt : i < len then (hrow i hlt).choose else _) = _
      rw [dif_pos hlt]
    refine ⟨⟨some a, (List.range len).map g, cap⟩, by simp [slv, Sl.v], ?_, fun x hx => ?_, ?_, fun x hx => ?_, by simp; omega⟩
    · by_cases hz : len = 0
      · subst hz
        exact .inl rfl
      · obtain ⟨r0, _, C, U, fr, ha, hb, _, _⟩ := hrow 0 (by omega)
        refine .inr ⟨a.block, a.off, C, U, fr, congrArg some ha, hb, fun i r hr => ?_⟩
        rw [List.getElem?_map] at hr
        by_cases hlt : i < len
        · rw [List.getElem?_range hlt] at hr
          simp only [Option.map_some, Option.some.injEq] at hr
          subst hr
          obtain ⟨_, C', U', fr', _, hb', he, hsz⟩ := (hrow i hlt).choose_spec
          rw [hb] at hb'
          cases hb'
          rw [hg i hlt]
          exact ⟨he, hsz⟩
        · rw [List.getElem?_eq_none (by simp; omega)] at hr
          simp at hr
    · obtain ⟨i, hi2, rfl⟩ := List.mem_map.1 hx
      have hlt := List.mem_range.1 hi2
      rw [hg i hlt]
      exact (hrow i hlt).choose_spec.1
    · have := hfit ((elems.length + rest.length) * B) (by
        simp only [DataW.weights, ht, List.mem_cons, List.length_map, hB]
        exact .inl trivial)
      have h2 : len * B ≤ (elems.length + rest.length) * B := Nat.mul_le_mul_right _ (by omega)
      simp only [List.length_map, List.length_range]
      omega
    · cases hx
      by_cases hz : len = 0
      · subst hz
        exact .inr rfl
      · obtain ⟨r0, _, C, U, fr, ha, hb, _, _⟩ := hrow 0 (by omega)
        exact .inl (lt_size hb)
theorem fits_field {t : TypeId} {fs : Array Field} {parts : List (DataW H)} (ht : P.underlying t = some (.struct fs)) (hfit : fits P t (.agg parts)) {i : Nat} {fl : Field} {d : DataW H} (hf : fs[i]? = some fl) (hd : parts[i]? = some d) : fits P fl.type d := fun k hk => hfit k (by
  simp only [DataW.weights, ht]
  exact DataW.weights_mem_each (j := i) (by simp [hf]) hd k hk)
/-- Of a list of arguments each fits. -/
theorem fits_arg {ts : List TypeId} {ds : List (DataW H)} (h : (DataW.weightsEach P ts ds).all (· ≤ reachBytes) = true) {j : Nat} {t : TypeId} {d : DataW H} (ht : ts[j]? = some t) (hd : ds[j]? = some d) : fits P t d := fun k hk => by
  have := List.all_eq_true.1 h _ (DataW.weights_mem_each ht hd k hk)
  simpa using this
theorem reach_small {n B : Nat} (h : n * B ≤ reachBytes) (hB : 0 < B) : n ≤ 140737488355328 := by
  have := reachBytes_lt
  have h2 : n * 1 ≤ n * B := Nat.mul_le_mul_left _ hB
  have : n < 2 ^ 47 := by omega
  exact Nat.le_of_lt this
end
section
variable {α : Type} {f : α → Array Value} {n B : Nat} {P : Program} {T E : TypeId}
/-- The element type of a slice type. -/
structure ElT (P : Program) (T E : TypeId) (f : α → Array Value) (n B : Nat) : Prop where
  u : P.underlying T = some (.slice E)
  info : ∃ i z, P.info? E = some i ∧ i.zero = some z ∧ i.size = n ∧ i.bytes = B ∧ z.cells.size = n
  pos : 0 < n
  size : ∀ x, (f x).size = n
  one : ∀ x, ∀ u ∈ (f x).toList, u.oneCell' = true
def cellsOf (f : α → Array Value) (l : List α) : List Value := l.flatMap fun x => (f x).toList
theorem cellsOf_append (l m : List α) : cellsOf f (l ++ m) = cellsOf f l ++ cellsOf f m := by simp [cellsOf]
theorem cellsOf_len (h : ∀ x, (f x).size = n) : ∀ l : List α, (cellsOf f l).length = l.length * n
  | [] => by simp [cellsOf]
  | x :: l => by
    have := cellsOf_len h l
    unfold cellsOf at this ⊢
    rw [List.flatMap_cons, List.length_append, this, Array.length_toList, h x, List.length_cons, Nat.add_mul]
    omega
theorem cellsOf_get (h : ∀ x, (f x).size = n) : ∀ (l : List α) (i : Nat) (x : α), l[i]? = some x → ((cellsOf f l).drop (i * n)).take n = (f x).toList
  | [], i, x, h => by simp at h
  | y :: l, 0, x, hx => by
    simp at hx
    subst hx
    show (((f y).toList ++ cellsOf f l).drop (0 * n)).take n = _
    rw [Nat.zero_mul, List.drop_zero]
    have : n = (f y).toList.length := by rw [Array.length_toList, h]
    rw [this, List.take_left]
  | y :: l, i + 1, x, hx => by
    have := cellsOf_get h l i x (by simpa using hx)
    show (((f y).toList ++ cellsOf f l).drop ((i + 1) * n)).take n = _
    have h2 : (f y).toList.length = n := by rw [Array.length_toList, h]
    rw [List.drop_append, h2, List.drop_eq_nil_of_le (by rw [h2, Nat.add_mul]; omega), List.nil_append, Nat.add_mul, Nat.one_mul, Nat.add_sub_cancel]
    exact this
def SlOwn (f : α → Array Value) (n : Nat) (E : TypeId) (w : World) (base : Nat) (v : Value) (l : List α) : Prop := w.ownsRow base E n v l.length (cellsOf f l)
theorem SlOwn.nil (w : World) (base : Nat) : SlOwn f n E w base (.slice none 0 0) [] := World.ownsRow_nil w base _ _
theorem SlOwn.mod {w w' : World} {base : Nat} {v : Value} {l : List α} {S : Nat → Prop} (h : SlOwn f n E w base v l) (hm : Mod S w w') (hS : ∀ b, v.ownBlock = some b → ¬ S b) : SlOwn f n E w' base v l := by
  refine ⟨h.1, ?_⟩
  rcases h.2 with hn | ⟨g, cap, cur, rfl, hb, hg, rest⟩
  · exact .inl hn
  · exact .inr ⟨g, cap, cur, rfl, hb, hm.at hg (hS g rfl), rest⟩
theorem SlOwn.mod0 {w w' : World} {base : Nat} {v : Value} {l : List α} (h : SlOwn f n E w base v l) (hm : Mod (fun _ => False) w w') : SlOwn f n E w' base v l := h.mod hm (fun _ _ h => h)
theorem SlOwn.lt {w : World} {base : Nat} {v : Value} {l : List α} (h : SlOwn f n E w base v l) : ∀ k, v.ownBlock = some k → base ≤ k ∧ k < w.heap.size := World.ownsRow.lt h
theorem SlOwn.at (hT : ElT P T E f n B) {w : World} {base : Nat} {v : Value} {l : List α} (h : SlOwn f n E w base v l) :
    ∃ a c, v = .slice a l.length c ∧ SlAt f n w a l ∧ (∀ x, a = some x → base ≤ x.block ∧ x.block < w.heap.size ∧ v.ownBlock = some x.block) ∧ l.length ≤ maxLen := by
  rcases h.2 with ⟨rfl, hn⟩ | ⟨g, cap, cur, rfl, hb, hg, hnc, hcm, hcs, htake⟩
  · obtain rfl : l = [] := List.eq_nil_of_length_eq_zero hn
    exact ⟨none, 0, rfl, .inl rfl, fun x hx => (by cases hx), (by simp)⟩
  · refine ⟨_, cap, rfl, .inr ⟨g, 0, cur, _, _, rfl, hg, fun i r hr => ?_⟩, fun x hx => ?_, Nat.le_trans hnc hcm⟩
    · have hi : i < l.length := (List.getElem?_eq_some_iff.1 hr).1
      have hle : (i + 1) * n ≤ cap * n := Nat.mul_le_mul_right _ (by omega)
      have hle2 : (i + 1) * n ≤ l.length * n := Nat.mul_le_mul_right _ hi
      rw [Nat.add_mul, Nat.one_mul] at hle hle2
      refine ⟨?_, by omega⟩
      have h1 := cellsOf_get hT.size l i r hr
      rw [← htake] at h1
      have h2 : ((cur.toList.take (l.length * n)).drop (i * n)).take n = (cur.toList.drop (i * n)).take n := by
        rw [List.drop_take, List.take_take, Nat.min_eq_left]
        omega
      rw [h2] at h1
      apply Array.ext'
      rw [← h1, Array.toList_extract]
      simp [List.extract]
    · cases hx
      exact ⟨hb, lt_size hg, rfl⟩
theorem append_none {w : World} {t : TypeId} {v : Value} {base : Nat} {l : List α} (hT : ElT P T E f n B) (h : SlOwn f n E w base v l) (ty : TypeId) (c : Nat) : (Builtin.append_ #[T, T] ty #[v, .slice none 0 c]).run P w = .ok v w := by
  obtain ⟨i, z, hi, hz, h1, h2, h3⟩ := hT.info
  rcases h.2 with ⟨rfl, hn⟩ | ⟨g, cap, cur, rfl, hb, hg, hnc, hcm, hcs, htake⟩
  · simp [Builtin.append_, run_underlying hT.u, sizeOf, typeInfo, hi, Builtin.lenOf, Builtin.firstCells]
  · simp [Builtin.append_, run_underlying hT.u, sizeOf, typeInfo, hi, Builtin.lenOf, Builtin.firstCells, hnc, storeCells]
theorem SlOwn.appendB (hT : ElT P T E f n B) {w : World} {base : Nat} {v : Value} {l q : List α} {a : Option Addr} {c : Nat} (h : SlOwn f n E w base v l) (hq : SlAt f n w a q) (hlen : l.length + q.length ≤ 1000000000000) (hbytes : (l.length + q.length) * B ≤ 140737488355328) (hbase : base ≤ w.heap.size) (ty : TypeId) :
    ∃ v' w', (Builtin.append_ #[T, T] ty #[v, .slice a q.length c]).run P w = .ok v' w' ∧ SlOwn f n E w' base v' (l ++ q) ∧ Mod (fun i => v.ownBlock = some i) w w' ∧ (v'.ownBlock = v.ownBlock ∨ v'.ownBlock = some w.heap.size) := by
  obtain ⟨i0, z, hi, hz, hz1, hz2, hz3⟩ := hT.info
  cases a with
  | none =>
    obtain rfl : q = [] := by
      rcases hq with h | ⟨_, _, _, _, _, h, _⟩
      · exact h
      · cases h
    refine ⟨v, w, append_none (t := T) hT h ty c, by rwa [List.append_nil], Mod.refl _ _, .inl rfl⟩
  | some ad =>
    obtain ⟨v', w', hrun, hown, hg, _, hat⟩ := run_append_own_at (P := P) w base T ty E i0 z n B hT.u hi hz hz1 hz2 hz3 hT.pos v l.length (cellsOf f l) h ad q.length c (cellsOf f q) (cellsOf_len hT.size q) (fun j u hu => by
      have hj : j < (cellsOf f q).length := (List.getElem?_eq_some_iff.1 hu).1
      rw [cellsOf_len hT.size] at hj
      have hn := hT.pos
      have hd : j / n < q.length := Nat.div_lt_of_lt_mul (by rw [Nat.mul_comm]; exact hj)
      obtain ⟨x, hx⟩ : ∃ x, q[j / n]? = some x := ⟨_, List.getElem?_eq_getElem hd⟩
      obtain ⟨b, o, C, U, fr, ha, hb, he, hsz⟩ := hq.block hx
      cases ha
      have hjm : j / n * n + j % n = j := by rw [Nat.mul_comm]; exact Nat.div_add_mod j n
      have hlt := Nat.mod_lt j hn
      have hget := cellsOf_get hT.size q (j / n) x hx
      have hv : (f x)[j % n]? = some u := by
        have h1 := congrArg (fun L => L[j % n]?) hget
        simp only [List.getElem?_take, List.getElem?_drop, hlt, if_true, hjm] at h1
        rw [hu] at h1
        simpa using h1.symm
      have hcell := cell_in hb he hv
      have hadd : (⟨b, o, none⟩ : Addr).add j = ⟨b, o + j / n * n + j % n, none⟩ := by
        rw [Nat.add_assoc, hjm]
        unfold Addr.add
        split <;> simp_all
      rw [hadd]
      exact hcell) (fun u hu => by
      obtain ⟨x, _, hx⟩ := List.mem_flatMap.1 hu
      exact hT.one x u hx) (by simp [maxLen]; omega) (by
      exact hbytes) hbase
    refine ⟨v', w', hrun, ?_, ⟨hg.os, hg.tape, hg.output, hg.size, fun i hi hs => hg.block i hi (fun e => hs e.symm)⟩, hat⟩
    unfold SlOwn
    rw [cellsOf_append, List.length_append]
    exact hown
theorem SlOwn.append (hT : ElT P T E f n B) {w : World} {base : Nat} {v : Value} {l q : List α} {a : Option Addr} {c : Nat} (h : SlOwn f n E w base v l) (hq : SlAt f n w a q) (hlen : l.length + q.length ≤ 1000000) (hB : B ≤ 100000000) (hbase : base ≤ w.heap.size) (ty : TypeId) :
    ∃ v' w', (Builtin.append_ #[T, T] ty #[v, .slice a q.length c]).run P w = .ok v' w' ∧ SlOwn f n E w' base v' (l ++ q) ∧ Mod (fun i => v.ownBlock = some i) w w' ∧ (v'.ownBlock = v.ownBlock ∨ v'.ownBlock = some w.heap.size) := by
  exact SlOwn.appendB hT h hq (by omega) (by
    have : (l.length + q.length) * B ≤ 1000000 * 100000000 := Nat.mul_le_mul hlen hB
    omega) hbase ty
end
section
variable {α : Type} {f : α → Array Value} {n B : Nat} {P : Program} {T E : TypeId}
def SlOff (f : α → Array Value) (n : Nat) (E : TypeId) (w : World) (base : Nat) (v : Value) (l : List α) : Prop :=
  (v = .slice none 0 0 ∧ l = []) ∨
  ∃ g o cap cur, v = .slice (some ⟨g, o, none⟩) l.length cap ∧ base ≤ g ∧ w.heap[g]? = some (.cells cur E (0, 0)) ∧ l.length ≤ cap ∧ cap ≤ maxLen ∧ (0 < cap → o + cap * n ≤ cur.size) ∧ (cur.toList.drop o).take (l.length * n) = cellsOf f l
theorem SlOwn.off {w : World} {base : Nat} {v : Value} {l : List α} (h : SlOwn f n E w base v l) : SlOff f n E w base v l := by
  rcases h.2 with ⟨rfl, hn⟩ | ⟨g, cap, cur, rfl, hb, hg, hnc, hcm, hcs, htake⟩
  · exact .inl ⟨rfl, List.eq_nil_of_length_eq_zero hn⟩
  · exact .inr ⟨g, 0, cap, cur, rfl, hb, hg, hnc, hcm, fun _ => by omega, by rw [List.drop_zero]; exact htake⟩
theorem SlOff.nil (w : World) (base : Nat) : SlOff f n E w base (.slice none 0 0) [] := .inl ⟨rfl, rfl⟩
theorem SlOff.mod {w w' : World} {base : Nat} {v : Value} {l : List α} {S : Nat → Prop} (h : SlOff f n E w base v l) (hm : Mod S w w') (hS : ∀ b, v.ownBlock = some b → ¬ S b) : SlOff f n E w' base v l := by
  rcases h with hn | ⟨g, o, cap, cur, rfl, hb, hg, rest⟩
  · exact .inl hn
  · exact .inr ⟨g, o, cap, cur, rfl, hb, hm.at hg (hS g rfl), rest⟩
theorem SlOff.mod0 {w w' : World} {base : Nat} {v : Value} {l : List α} (h : SlOff f n E w base v l) (hm : Mod (fun _ => False) w w') : SlOff f n E w' base v l := h.mod hm (fun _ _ h => h)
theorem SlOff.lt {w : World} {base : Nat} {v : Value} {l : List α} (h : SlOff f n E w base v l) : ∀ k, v.ownBlock = some k → base ≤ k ∧ k < w.heap.size := by
  intro k hk
  rcases h with ⟨rfl, _⟩ | ⟨g, o, cap, cur, rfl, hb, hg, _⟩
  · cases hk
  · cases hk
    exact ⟨hb, lt_size hg⟩
theorem SlOff.at (hT : ElT P T E f n B) {w : World} {base : Nat} {v : Value} {l : List α} (h : SlOff f n E w base v l) :
    ∃ a c, v = .slice a l.length c ∧ SlAt f n w a l ∧ (∀ x, a = some x → base ≤ x.block ∧ x.block < w.heap.size ∧ v.ownBlock = some x.block) ∧ l.length ≤ maxLen := by
  rcases h with ⟨rfl, rfl⟩ | ⟨g, o, cap, cur, rfl, hb, hg, hnc, hcm, hcs, htake⟩
  · exact ⟨none, 0, rfl, .inl rfl, fun x hx => (by cases hx), (by simp)⟩
  · refine ⟨_, cap, rfl, .inr ⟨g, o, cur, _, _, rfl, hg, fun i r hr => ?_⟩, fun x hx => ?_, Nat.le_trans hnc hcm⟩
    · have hi : i < l.length := (List.getElem?_eq_some_iff.1 hr).1
      have hle : (i + 1) * n ≤ cap * n := Nat.mul_le_mul_right _ (by omega)
      have hle2 : (i + 1) * n ≤ l.length * n := Nat.mul_le_mul_right _ hi
      have hcs := hcs (by omega)
      rw [Nat.add_mul, Nat.one_mul] at hle hle2
      refine ⟨?_, by omega⟩
      have h1 := cellsOf_get hT.size l i r hr
      rw [← htake] at h1
      have h2 : (((cur.toList.drop o).take (l.length * n)).drop (i * n)).take n = (cur.toList.drop (o + i * n)).take n := by
        rw [List.drop_take, List.take_take, Nat.min_eq_left (by omega), List.drop_drop]
      rw [h2] at h1
      apply Array.ext'
      rw [← h1, Array.toList_extract]
      simp [List.extract]
    · cases hx
      exact ⟨hb, lt_size hg, rfl⟩
/-- The cells of q, where they lie. -/
theorem SlAt.news (hT : ElT P T E f n B) {w : World} {ad : Addr} {q : List α} (hq : SlAt f n w (some ad) q) : ∀ j u, (cellsOf f q)[j]? = some u → w.cell? (ad.add j) = some u := fun j u hu => by
  have hj : j < (cellsOf f q).length := (List.getElem?_eq_some_iff.1 hu).1
  rw [cellsOf_len hT.size] at hj
  have hn := hT.pos
  have hd : j / n < q.length := Nat.div_lt_of_lt_mul (by rw [Nat.mul_comm]; exact hj)
  obtain ⟨x, hx⟩ : ∃ x, q[j / n]? = some x := ⟨_, List.getElem?_eq_getElem hd⟩
  obtain ⟨b, o, C, U, fr, ha, hb, he, hsz⟩ := hq.block hx
  cases ha
  have hjm : j / n * n + j % n = j := by rw [Nat.mul_comm]; exact Nat.div_add_mod j n
  have hlt := Nat.mod_lt j hn
  have hget := cellsOf_get hT.size q (j / n) x hx
  have hv : (f x)[j % n]? = some u := by
    have h1 := congrArg (fun L => L[j % n]?) hget
    simp only [List.getElem?_take, List.getElem?_drop, hlt, if_true, hjm] at h1
    rw [hu] at h1
    simpa using h1.symm
  have hcell := cell_in hb he hv
  have hadd : (⟨b, o, none⟩ : Addr).add j = ⟨b, o + j / n * n + j % n, none⟩ := by
    rw [Nat.add_assoc, hjm]
    unfold Addr.add
    split <;> simp_all
  rw [hadd]
  exact hcell
theorem cellsOf_one (hT : ElT P T E f n B) (q : List α) : ∀ u ∈ cellsOf f q, u.oneCell' = true := fun u hu => by
  obtain ⟨x, _, hx⟩ := List.mem_flatMap.1 hu
  exact hT.one x u hx
theorem SlOff.append (hT : ElT P T E f n B) {w : World} {base : Nat} {v : Value} {l q : List α} {a : Option Addr} {c : Nat} (h : SlOff f n E w base v l) (hq : SlAt f n w a q) (hlen : l.length + q.length ≤ 1000000) (hB : B ≤ 100000000) (hbase : base ≤ w.heap.size) (ty : TypeId) :
    ∃ v' w', (Builtin.append_ #[T, T] ty #[v, .slice a q.length c]).run P w = .ok v' w' ∧ SlOff f n E w' base v' (l ++ q) ∧ Mod (fun i => v.ownBlock = some i) w w' ∧ (∀ k, v'.ownBlock = some k → v.ownBlock = some k ∨ w.heap.size ≤ k) := by
  obtain ⟨i0, z, hi, hz, hz1, hz2, hz3⟩ := hT.info
  have hbytes : (l.length + q.length) * B ≤ 140737488355328 := by
    have : (l.length + q.length) * B ≤ 1000000 * 100000000 := Nat.mul_le_mul hlen hB
    omega
  rcases id h with ⟨rfl, rfl⟩ | ⟨g, o, cap, cur, rfl, hb, hg, hnc, hcm, hcs, htake⟩
  · obtain ⟨v', w', h1, h2, h3, h4⟩ := SlOwn.append hT (c := c) (SlOwn.nil w base) hq hlen hB hbase ty
    exact ⟨v', w', h1, h2.off, h3, fun k hk => by rcases h4 with h4 | h4 <;> rw [h4] at hk <;> cases hk; exact .inr (Nat.le_refl _)⟩
  · cases a with
    | none =>
      obtain rfl : q = [] := by
        rcases hq with h | ⟨_, _, _, _, _, h, _⟩
        · exact h
        · cases h
      refine ⟨.slice (some ⟨g, o, none⟩) l.length cap, w, ?_, by rw [List.append_nil]; exact h, Mod.refl _ _, fun _ => .inl⟩
      simp [Builtin.append_, run_underlying hT.u, sizeOf, typeInfo, hi, Builtin.lenOf, Builtin.firstCells, hnc, storeCells]
    | some ad =>
      have hl := cellsOf_len hT.size q
      have hnews := SlAt.news hT hq
      have h1 := cellsOf_one hT q
      by_cases hroom : l.length + q.length ≤ cap
      · by_cases hc0 : cap = 0
        · subst hc0
          obtain rfl : l = [] := List.eq_nil_of_length_eq_zero (by omega)
          obtain rfl : q = [] := List.eq_nil_of_length_eq_zero (by omega)
          refine ⟨.slice (some ⟨g, o, none⟩) 0 0, w, ?_, by rw [List.append_nil]; exact h, Mod.refl _ _, fun _ => .inl⟩
          have := run_append_room_cells (P := P) w T ty E i0 hT.u hi g o 0 0 ad 0 c [] (by simp) (by simp) (by simp) (by omega) (by simp) (by simp)
          exact this
        · have hcs := hcs (by omega)
          have hmul : (l.length + q.length) * n ≤ cap * n := Nat.mul_le_mul_right _ hroom
          rw [Nat.add_mul] at hmul
          have hrun := run_append_room_cells (P := P) w T ty E i0 hT.u hi g o l.length cap ad q.length c (cellsOf f q) (by rw [hl, hz1]) hnews h1 hroom (fun j hj => by
            rw [hl] at hj
            rw [hz1]
            unfold World.cell?
            rw [hg]
            simp
            omega) (fun j hj => by
            unfold World.frozen?
            rw [hg]
            simp)
          rw [hz1, setCells_blk _ w g _ cur E (0, 0) hg] at hrun
          refine ⟨_, _, hrun, .inr ⟨g, o, cap, wr cur (o + l.length * n) (cellsOf f q), by rw [List.length_append], hb, heap_setBlock w _ (lt_size hg), by rw [List.length_append]; omega, hcm, fun _ => by rw [wr_size]; exact hcs, ?_⟩, (mod_set w g _).mono (fun i _ e => by subst e; rfl), fun _ => .inl⟩
          rw [wr_list _ _ _ (by rw [hl]; omega), cellsOf_append, List.length_append, Nat.add_mul]
          have hcl : cur.toList.length = cur.size := Array.length_toList
          have e1 : (cur.toList.take (o + l.length * n) ++ cellsOf f q ++ cur.toList.drop (o + l.length * n + (cellsOf f q).length)).drop o = ((cur.toList.drop o).take (l.length * n)) ++ cellsOf f q ++ cur.toList.drop (o + l.length * n + (cellsOf f q).length) := by
            rw [List.append_assoc, List.drop_append_of_le_length (by rw [List.length_take, hcl]; omega), List.drop_take, Nat.add_sub_cancel_left, List.append_assoc]
          rw [e1, htake]
          have hll := cellsOf_len hT.size l
          have : l.length * n + q.length * n = (cellsOf f l ++ cellsOf f q).length := by rw [List.length_append, hll, hl]
          rw [this, List.take_left]
      · obtain ⟨v', w', hrun, hown, hgr⟩ := run_append_arg_grows (P := P) w T ty E i0 z n B hT.u hi hz hz1 hz2 hz3 hT.pos ⟨g, o, none⟩ l.length cap (cellsOf f l) (cellsOf_len hT.size l) (by
          obtain ⟨a', c', hv, hat, _, _⟩ := h.at hT
          cases hv
          exact SlAt.news hT hat) ad q.length c (cellsOf f q) hl hnews (by omega) (by simp [maxLen]; omega) hbytes
        have hown2 : SlOwn f n E w' w.heap.size v' (l ++ q) := by
          unfold SlOwn
          rw [cellsOf_append, List.length_append]
          exact hown
        have hm : Mod (fun _ => False) w w' := ⟨hgr.os, hgr.tape, hgr.output, hgr.size, fun i hi hs => hgr.block i hi (by simp)⟩
        refine ⟨v', w', hrun, ?_, hm.mono (fun _ _ h => h.elim), ?_⟩
        · rcases hown2.off with hn | ⟨g', o', cap', cur', h1, h2, rest⟩
          · exact .inl hn
          · exact .inr ⟨g', o', cap', cur', h1, by omega, rest⟩
        · exact fun k hk => .inr (hown2.lt k hk).1
/-- The head cut off. -/
theorem run_tail (hT : ElT P T E f n B) {w : World} {base : Nat} {v : Value} {x : α} {l : List α} (h : SlOff f n E w base v (x :: l)) :
    ∃ v', (∀ w', (Instr.sliceAt T v (some (.int .i64 1)) none none).run P w' = .ok v' w') ∧ SlOff f n E w base v' l ∧ v'.ownBlock = v.ownBlock := by
  obtain ⟨i0, z, hi, hz, hz1, hz2, hz3⟩ := hT.info
  rcases h with ⟨_, h⟩ | ⟨g, o, cap, cur, rfl, hb, hg, hnc, hcm, hcs, htake⟩
  · cases h
  · simp only [List.length_cons] at hnc htake ⊢
    have hcs := hcs (by omega)
    have hn := hT.pos
    refine ⟨.slice (some (if cap = 1 then ⟨g, o, none⟩ else ⟨g, o + n, none⟩)) l.length (cap - 1), fun w => ?_, ?_, ?_⟩
    · have hadd : (⟨g, o, none⟩ : Addr).add n = ⟨g, o + n, none⟩ := by
        unfold Addr.add
        rw [if_neg (by omega)]
      have h1 : (1 : Int) ≤ (l.length : Int) + 1 := by omega
      simp only [Instr.sliceAt, Instr.slice, Instr.sliceBounds, Instr.sliceBound, asIntOf, sizeOf, typeInfo, run_underlying hT.u, hi, Sem.run_bind, Sem.run_pure, Result.andThen_ok]
      have hp : (0 : Int) ≤ 1 ∧ (1 : Int) ≤ ((l.length + 1 : Nat) : Int) := ⟨by omega, by omega⟩
      rw [if_pos hp]
      simp only [Sem.run_pure, Result.andThen_ok, Go.program, Sem.run, hi, hz1, Option.map_some, show Int.toNat 1 = 1 from rfl, Nat.one_mul, hadd, Nat.add_sub_cancel]
      by_cases hc1 : cap = 1
      · simp [hc1]
      · simp [hc1]
    · refine .inr ⟨g, if cap = 1 then o else o + n, cap - 1, cur, ?_, hb, hg, by omega, by omega, fun h0 => ?_, ?_⟩
      · by_cases hc1 : cap = 1 <;> simp [hc1]
      · rw [if_neg (by omega)]
        have : (cap - 1) * n + n = cap * n := by rw [← Nat.succ_mul]; congr 1; omega
        omega
      · by_cases hc1 : cap = 1
        · have : l = [] := List.eq_nil_of_length_eq_zero (by omega)
          subst this
          simp [cellsOf]
        · rw [if_neg hc1]
          have h2 := congrArg (fun L => L.drop n) htake
          have hfx : (f x).toList.length = n := by rw [Array.length_toList, hT.size]
          have e : cellsOf f (x :: l) = (f x).toList ++ cellsOf f l := by simp [cellsOf]
          rw [e] at h2
          rw [← hfx, List.drop_left, hfx, List.drop_take, List.drop_drop, Nat.succ_mul, Nat.add_sub_cancel] at h2
          exact h2
    · split <;> rfl
end
section
variable {α : Type} {f : α → Array Value} {n B : Nat} {P : Program} {T E : TypeId}
theorem sl_drop (hT : ElT P T E f n B) {g o cap len k : Nat} (hk : k ≤ len) (hc : len ≤ cap) (w : World) :
    (Instr.sliceAt T (.slice (some ⟨g, o, none⟩) len cap) (some (.int .i64 (k : Int))) none none).run P w = .ok (.slice (some (if cap = k then ⟨g, o, none⟩ else ⟨g, o + k * n, none⟩)) (len - k) (cap - k)) w := by
  obtain ⟨i0, z, hi, hz, hz1, hz2, hz3⟩ := hT.info
  have hadd : (⟨g, o, none⟩ : Addr).add (k * n) = ⟨g, o + k * n, none⟩ := by
    unfold Addr.add
    split <;> simp_all
  have hp : (0 : Int) ≤ (k : Int) ∧ (k : Int) ≤ (len : Int) := ⟨by omega, by omega⟩
  simp only [Instr.sliceAt, Instr.slice, Instr.sliceBounds, Instr.sliceBound, asIntOf, sizeOf, typeInfo, run_underlying hT.u, hi, Sem.run_bind, Sem.run_pure, Result.andThen_ok]
  rw [if_pos hp]
  simp only [Sem.run_pure, Result.andThen_ok, Go.program, Sem.run, hi, hz1, Option.map_some, Int.toNat_natCast, hadd]
  by_cases hc1 : cap = k <;> simp [hc1]
theorem sl_take (hT : ElT P T E f n B) {g o cap len k : Nat} (hk : k ≤ cap) (w : World) :
    (Instr.sliceAt T (.slice (some ⟨g, o, none⟩) len cap) none (some (.int .i64 (k : Int))) none).run P w = .ok (.slice (some ⟨g, o, none⟩) k cap) w := by
  obtain ⟨i0, z, hi, hz, hz1, hz2, hz3⟩ := hT.info
  have hadd : (⟨g, o, none⟩ : Addr).add (0 * n) = ⟨g, o, none⟩ := by
    unfold Addr.add
    rw [Nat.zero_mul, if_pos rfl]
  have hp : (0 : Int) ≤ (k : Int) ∧ (k : Int) ≤ (cap : Int) := ⟨by omega, by omega⟩
  simp only [Instr.sliceAt, Instr.slice, Instr.sliceBounds, Instr.sliceBound, asIntOf, sizeOf, typeInfo, run_underlying hT.u, hi, Sem.run_bind, Sem.run_pure, Result.andThen_ok]
  rw [if_pos hp]
  simp only [Sem.run_pure, Result.andThen_ok, Go.program, Sem.run, hi, hz1, Option.map_some, Int.toNat_natCast, hadd, Nat.sub_zero, ite_self]
/-- The element at p taken out. -/
theorem SlOff.del (hT : ElT P T E f n B) {w : World} {base : Nat} {v : Value} {l : List α} (h : SlOff f n E w base v l) {p : Nat} (hp : p < l.length) (ty : TypeId) :
    ∃ v1 v2, (∀ w, (Instr.sliceAt T v none (some (.int .i64 (p : Int))) none).run P w = .ok v1 w) ∧ (∀ w, (Instr.sliceAt T v (some (.int .i64 ((p + 1 : Nat) : Int))) none none).run P w = .ok v2 w) ∧
      ∀ w, SlOff f n E w base v l → ∃ v' w', (Builtin.append_ #[T, T] ty #[v1, v2]).run P w = .ok v' w' ∧ SlOff f n E w' base v' (l.eraseIdx p) ∧ Mod (fun i => v.ownBlock = some i) w w' ∧ v'.ownBlock = v.ownBlock := by
  obtain ⟨i0, z, hi, hz, hz1, hz2, hz3⟩ := hT.info
  rcases h with ⟨_, rfl⟩ | ⟨g, o, cap, cur0, rfl, _, _, hnc, hcm, _, _⟩
  · simp at hp
  · refine ⟨_, _, sl_take hT (by omega), sl_drop hT (by omega) hnc, fun w h => ?_⟩
    rcases h with ⟨h, _⟩ | ⟨g', o', cap', cur, hv, hb, hg, _, _, hcs, htake⟩
    · cases h
    · simp only [Value.slice.injEq, Option.some.injEq, Addr.mk.injEq, and_true, true_and] at hv
      obtain ⟨⟨rfl, rfl⟩, rfl⟩ := hv
      have hcs := hcs (by omega)
      have hm : (l.drop (p + 1)).length = l.length - (p + 1) := List.length_drop
      have hl := cellsOf_len hT.size (l.drop (p + 1))
      rw [hm] at hl
      have hmul : l.length * n ≤ cap * n := Nat.mul_le_mul_right _ hnc
      have hpn : p * n + n + (l.length - (p + 1)) * n = l.length * n := by
        rw [← Nat.succ_mul, ← Nat.add_mul]
        congr 1
        omega
      have hsplit : cellsOf f l = cellsOf f (l.take p) ++ (cellsOf f [l[p]] ++ cellsOf f (l.drop (p + 1))) := by
        rw [← cellsOf_append, ← cellsOf_append, List.singleton_append, ← List.drop_eq_getElem_cons hp, List.take_append_drop]
      have h1l := cellsOf_len hT.size (l.take p)
      rw [List.length_take, Nat.min_eq_left (by omega)] at h1l
      have h2l := cellsOf_len hT.size [l[p]]
      rw [List.length_singleton, Nat.one_mul] at h2l
      have hdrop : (cur.toList.drop (o + (p + 1) * n)).take ((l.length - (p + 1)) * n) = cellsOf f (l.drop (p + 1)) := by
        have h3 := congrArg (fun L => L.drop ((p + 1) * n)) htake
        rw [hsplit, ← List.append_assoc] at h3
        have h4 : (p + 1) * n = (cellsOf f (l.take p) ++ cellsOf f [l[p]]).length := by rw [List.length_append, h1l, h2l, Nat.succ_mul]
        have h5 : (cellsOf f (l.take p) ++ cellsOf f [l[p]] ++ cellsOf f (l.drop (p + 1))).drop ((p + 1) * n) = cellsOf f (l.drop (p + 1)) := by rw [h4, List.drop_left]
        rw [h5, List.drop_take, List.drop_drop] at h3
        rw [← h3]
        congr 1
        rw [← hpn, Nat.succ_mul]
        omega
      have hnews : ∀ j u, (cellsOf f (l.drop (p + 1)))[j]? = some u → w.cell? ((if cap = p + 1 then (⟨g, o, none⟩ : Addr) else ⟨g, o + (p + 1) * n, none⟩).add j) = some u := by
        by_cases hc1 : cap = p + 1
        · have : l.drop (p + 1) = [] := List.drop_of_length_le (by omega)
          rw [this]
          intro j u hu
          simp [cellsOf] at hu
        · rw [if_neg hc1]
          intro j u hu
          have hj : j < (cellsOf f (l.drop (p + 1))).length := (List.getElem?_eq_some_iff.1 hu).1
          rw [hl] at hj
          have hadd : (⟨g, o + (p + 1) * n, none⟩ : Addr).add j = ⟨g, o + (p + 1) * n + j, none⟩ := by
            unfold Addr.add
            split <;> simp_all
          rw [hadd]
          unfold World.cell?
          rw [hg]
          rw [← hdrop] at hu
          simp only [List.getElem?_take, List.getElem?_drop] at hu
          rw [if_pos hj] at hu
          simpa using hu
      have hrun := run_append_room_cells (P := P) w T ty E i0 hT.u hi g o p cap (if cap = p + 1 then (⟨g, o, none⟩ : Addr) else ⟨g, o + (p + 1) * n, none⟩) (l.length - (p + 1)) (cap - (p + 1)) (cellsOf f (l.drop (p + 1))) (by rw [hl, hz1]) hnews (cellsOf_one hT _) (by omega) (fun j hj => by
        rw [hl] at hj
        rw [hz1]
        unfold World.cell?
        rw [hg]
        simp
        omega) (fun j hj => by
        unfold World.frozen?
        rw [hg]
        simp)
      rw [hz1, setCells_blk _ w g _ cur E (0, 0) hg] at hrun
      have hle : (l.eraseIdx p).length = p + (l.length - (p + 1)) := by rw [List.length_eraseIdx, if_pos hp]; omega
      refine ⟨_, _, hrun, .inr ⟨g, o, cap, wr cur (o + p * n) (cellsOf f (l.drop (p + 1))), by rw [hle], hb, heap_setBlock w _ (lt_size hg), by rw [hle]; omega, hcm, fun _ => by rw [wr_size]; exact hcs, ?_⟩, (mod_set w g _).mono (fun i _ e => by subst e; rfl), rfl⟩
      have hcl : cur.toList.length = cur.size := Array.length_toList
      rw [wr_list _ _ _ (by rw [hl]; omega), hle, List.eraseIdx_eq_take_drop_succ, cellsOf_append]
      have e1 : (cur.toList.take (o + p * n) ++ cellsOf f (l.drop (p + 1)) ++ cur.toList.drop (o + p * n + (cellsOf f (l.drop (p + 1))).length)).drop o = ((cur.toList.drop o).take (p * n)) ++ cellsOf f (l.drop (p + 1)) ++ cur.toList.drop (o + p * n + (cellsOf f (l.drop (p + 1))).length) := by
        rw [List.append_assoc, List.drop_append_of_le_length (by rw [List.length_take, hcl]; omega), List.drop_take, Nat.add_sub_cancel_left, List.append_assoc]
      have e2 : (cur.toList.drop o).take (p * n) = cellsOf f (l.take p) := by
        have h3 := congrArg (fun L => L.take (p * n)) htake
        rw [hsplit] at h3
        have h5 : (cellsOf f (l.take p) ++ (cellsOf f [l[p]] ++ cellsOf f (l.drop (p + 1)))).take (p * n) = cellsOf f (l.take p) := by rw [← h1l, List.take_left]
        rw [h5, List.take_take, Nat.min_eq_left (by omega)] at h3
        exact h3
      rw [e1, e2]
      have : (p + (l.length - (p + 1))) * n = (cellsOf f (l.take p) ++ cellsOf f (l.drop (p + 1))).length := by rw [List.length_append, h1l, hl, Nat.add_mul]
      rw [this, List.take_left]
end
theorem SlAt.one {α : Type} {f : α → Array Value} {n : Nat} {w : World} {b : Nat} {C : Array Value} {U : TypeId} {fr} (hb : w.heap[b]? = some (.cells C U fr)) (x : α) (hC : C = f x) (hn : (f x).size = n) : SlAt f n w (some ⟨b, 0, none⟩) [x] := by
  subst hC
  refine .inr ⟨b, 0, _, U, fr, rfl, hb, fun i y hy => ?_⟩
  cases i with
  | zero =>
    simp at hy
    subst hy
    refine ⟨?_, by omega⟩
    rw [Nat.zero_mul, Nat.zero_add, ← hn]
    simp
  | succ i => simp at hy
theorem drop_cons {α : Type} {l : List α} {j : Nat} {x : α} (h : l[j]? = some x) : l.drop j = x :: l.drop (j + 1) := by
  obtain ⟨hj, rfl⟩ := List.getElem?_eq_some_iff.1 h
  exact List.drop_eq_getElem_cons hj
theorem fresh3 (w : World) (a b c : Obj) : (((w.alloc a).alloc b).alloc c).heap[w.heap.size]? = some a ∧ (((w.alloc a).alloc b).alloc c).heap[w.heap.size + 1]? = some b ∧ (((w.alloc a).alloc b).alloc c).heap[w.heap.size + 1 + 1]? = some c := by
  have e : (((w.alloc a).alloc b).alloc c).heap = ((w.heap.push a).push b).push c := rfl
  rw [e]
  have n1 : w.heap.size + 1 ≠ w.heap.size := by omega
  have n2 : w.heap.size ≠ w.heap.size + 1 + 1 := by omega
  have n3 : w.heap.size + 1 ≠ w.heap.size + 1 + 1 := by omega
  have s2 : (w.heap.push a).size = w.heap.size + 1 := by simp
  have s3 : ((w.heap.push a).push b).size = w.heap.size + 1 + 1 := by simp
  refine ⟨?_, ?_, ?_⟩
  · rw [Array.getElem?_push, s3, if_neg n2, Array.getElem?_push, s2, if_neg (Ne.symm n1), Array.getElem?_push, if_pos rfl]
  · rw [Array.getElem?_push, s3, if_neg n3, Array.getElem?_push, s2, if_pos rfl]
  · rw [Array.getElem?_push, s3, if_pos rfl]
theorem fresh2 (w : World) (a b : Obj) : ((w.alloc a).alloc b).heap[w.heap.size]? = some a ∧ ((w.alloc a).alloc b).heap[w.heap.size + 1]? = some b := by
  have e : ((w.alloc a).alloc b).heap = (w.heap.push a).push b := rfl
  rw [e]
  have n2 : w.heap.size ≠ w.heap.size + 1 := by omega
  have s2 : (w.heap.push a).size = w.heap.size + 1 := by simp
  refine ⟨?_, ?_⟩
  · rw [Array.getElem?_push, s2, if_neg n2, Array.getElem?_push, if_pos rfl]
  · rw [Array.getElem?_push, s2, if_pos rfl]
theorem any_take {α : Type} (f : α → Bool) (l : List α) {i : Nat} {x : α} (h : l[i]? = some x) : (l.take (i + 1)).any f = ((l.take i).any f || f x) := by
  rw [List.take_add_one, h]
  simp
theorem any_of_take {α : Type} {f : α → Bool} {l : List α} {i : Nat} (h : (l.take i).any f = true) : l.any f = true := by
  rw [List.any_eq_true] at *
  obtain ⟨x, hx, hf⟩ := h
  exact ⟨x, List.mem_of_mem_take hx, hf⟩
theorem all_take {α : Type} (f : α → Bool) (l : List α) {i : Nat} {x : α} (h : l[i]? = some x) : (l.take (i + 1)).all f = ((l.take i).all f && f x) := by
  rw [List.take_add_one, h]
  simp
theorem all_of_take {α : Type} {f : α → Bool} {l : List α} {i : Nat} (h : (l.take i).all f = false) : l.all f = false := by
  cases hl : l.all f with
  | false => rfl
  | true =>
    have : (l.take i).all f = true := by
      rw [List.all_eq_true] at hl ⊢
      exact fun x hx => hl x (List.mem_of_mem_take hx)
    rw [this] at h
    cases h
theorem SlOff.base {α : Type} {f : α → Array Value} {n : Nat} {E : TypeId} {w : World} {b b' : Nat} {v : Value} {l : List α} (h : SlOff f n E w b v l) (hb : b' ≤ b) : SlOff f n E w b' v l := by
  rcases h with h | ⟨g, o, cap, cur, h1, h2, rest⟩
  · exact .inl h
  · exact .inr ⟨g, o, cap, cur, h1, by omega, rest⟩
/-- The result lies in a variable. -/
theorem results_cell1 {P : Program} {fn : Func} {t : Tmp} {T : TypeId} {tmps : Array Value} {p : Addr} {v : Value} {w : World} (h : fn.results = #[.cell t T]) (ht : tmps.getD t undef = .pointer (some p))
    (hl : (Instr.loadAt T (.pointer (some p))).run P w = .ok v w) : (results fn tmps).run P w = .ok v w := by
  have hl2 : (loadVar T p).run P w = .ok v w := by simpa [Instr.loadAt, Instr.sureAddr] using hl
  unfold results
  rw [h]
  have hmap : ∀ {α β : Type} (f : α → β) (x : Sem α) (w : World), (f <$> x).run P w = (x.run P w).andThen fun a w => .ok (f a) w := fun f x w => by
    show (x >>= fun a => pure (f a)).run P w = _
    rw [Sem.run_bind]
    rfl
  simp only [List.mapM_toArray, List.mapM_cons, List.mapM_nil, ht, asAddr, Sem.run_bind, hmap, Sem.run_pure, Result.andThen_ok, hl2]
  rfl
end Go.Proofs.Ytofpnmoeimjnnaa
