/- Slices of any elements that a call owns: what they read as, appending to them. -/
import Derived.Test.YtleenmldlbccmaaSl
namespace Go.Proofs.Ytleenmldlbccmaa
set_option linter.unusedVariables false
set_option linter.unusedSimpArgs false
set_option linter.unusedSectionVars false
open Go.RowKit
section
variable {α : Type} {f : α → Array Value} {n B : Nat} {P : Program} {T E : TypeId}
/-- The element type of a slice type. -/
structure ElT (P : Program) (T E : TypeId) (f : α → Array Value) (n B : Nat) : Prop where
  u : P.underlying T = some (.slice E)
  info : ∃ i z, P.info? E = some i ∧ i.zero = some z ∧ i.size = n ∧ i.bytes = B ∧ z.cells.size = n
  pos : 0 < n
  size : ∀ x, (f x).size = n
  one : ∀ x, ∀ u ∈ (f x).toList, u.oneCell' = true
def cellsOf (f : α → Array Value) (l : List α) : List Value := l.flatMap fun x => (f x).toList
theorem cellsOf_append (l m : List α) : cellsOf f (l ++ m) = cellsOf f l ++ cellsOf f m := by simp [cellsOf]
theorem cellsOf_len (h : ∀ x, (f x).size = n) : ∀ l : List α, (cellsOf f l).length = l.length * n
  | [] => by simp [cellsOf]
  | x :: l => by
    have := cellsOf_len h l
    unfold cellsOf at this ⊢
    rw [List.flatMap_cons, List.length_append, this, Array.length_toList, h x, List.length_cons, Nat.add_mul]
    omega
theorem cellsOf_get (h : ∀ x, (f x).size = n) : ∀ (l : List α) (i : Nat) (x : α), l[i]? = some x → ((cellsOf f l).drop (i * n)).take n = (f x).toList
  | [], i, x, h => by simp at h
  | y :: l, 0, x, hx => by
    simp at hx
    subst hx
    show (((f y).toList ++ cellsOf f l).drop (0 * n)).take n = _
    rw [Nat.zero_mul, List.drop_zero]
    have : n = (f y).toList.length := by rw [Array.length_toList, h]
    rw [this, List.take_left]
  | y :: l, i + 1, x, hx => by
    have := cellsOf_get h l i x (by simpa using hx)
    show (((f y).toList ++ cellsOf f l).drop ((i + 1) * n)).take n = _
    have h2 : (f y).toList.length = n := by rw [Array.length_toList, h]
    rw [List.drop_append, h2, List.drop_eq_nil_of_le (by rw [h2, Nat.add_mul]; omega), List.nil_append, Nat.add_mul, Nat.one_mul, Nat.add_sub_cancel]
    exact this
def SlOwn (f : α → Array Value) (n : Nat) (E : TypeId) (w : World) (base : Nat) (v : Value) (l : List α) : Prop := w.ownsRow base E n v l.length (cellsOf f l)
theorem SlOwn.nil (w : World) (base : Nat) : SlOwn f n E w base (.slice none 0 0) [] := World.ownsRow_nil w base _ _
theorem SlOwn.mod {w w' : World} {base : Nat} {v : Value} {l : List α} {S : Nat → Prop} (h : SlOwn f n E w base v l) (hm : Mod S w w') (hS : ∀ b, v.ownBlock = some b → ¬ S b) : SlOwn f n E w' base v l := by
  refine ⟨h.1, ?_⟩
  rcases h.2 with hn | ⟨g, cap, cur, rfl, hb, hg, rest⟩
  · exact .inl hn
  · exact .inr ⟨g, cap, cur, rfl, hb, hm.at hg (hS g rfl), rest⟩
theorem SlOwn.mod0 {w w' : World} {base : Nat} {v : Value} {l : List α} (h : SlOwn f n E w base v l) (hm : Mod (fun _ => False) w w') : SlOwn f n E w' base v l := h.mod hm (fun _ _ h => h)
theorem SlOwn.lt {w : World} {base : Nat} {v : Value} {l : List α} (h : SlOwn f n E w base v l) : ∀ k, v.ownBlock = some k → base ≤ k ∧ k < w.heap.size := World.ownsRow.lt h
theorem SlOwn.at (hT : ElT P T E f n B) {w : World} {base : Nat} {v : Value} {l : List α} (h : SlOwn f n E w base v l) :
    ∃ a c, v = .slice a l.length c ∧ SlAt f n w a l ∧ (∀ x, a = some x → base ≤ x.block ∧ x.block < w.heap.size ∧ v.ownBlock = some x.block) ∧ l.length ≤ maxLen := by
  rcases h.2 with ⟨rfl, hn⟩ | ⟨g, cap, cur, rfl, hb, hg, hnc, hcm, hcs, htake⟩
  · obtain rfl : l = [] := List.eq_nil_of_length_eq_zero hn
    exact ⟨none, 0, rfl, .inl rfl, fun x hx => (by cases hx), (by simp)⟩
  · refine ⟨_, cap, rfl, .inr ⟨g, 0, cur, _, _, rfl, hg, fun i r hr => ?_⟩, fun x hx => ?_, Nat.le_trans hnc hcm⟩
    · have hi : i < l.length := (List.getElem?_eq_some_iff.1 hr).1
      have hle : (i + 1) * n ≤ cap * n := Nat.mul_le_mul_right _ (by omega)
      have hle2 : (i + 1) * n ≤ l.length * n := Nat.mul_le_mul_right _ hi
      rw [Nat.add_mul, Nat.one_mul] at hle hle2
      refine ⟨?_, by omega⟩
      have h1 := cellsOf_get hT.size l i r hr
      rw [← htake] at h1
      have h2 : ((cur.toList.take (l.length * n)).drop (i * n)).take n = (cur.toList.drop (i * n)).take n := by
        rw [List.drop_take, List.take_take, Nat.min_eq_left]
        omega
      rw [h2] at h1
      apply Array.ext'
      rw [← h1, Array.toList_extract]
      simp [List.extract]
    · cases hx
      exact ⟨hb, lt_size hg, rfl⟩
theorem append_none {w : World} {t : TypeId} {v : Value} {base : Nat} {l : List α} (hT : ElT P T E f n B) (h : SlOwn f n E w base v l) (ty : TypeId) (c : Nat) : (Builtin.append_ #[T, T] ty #[v, .slice none 0 c]).run P w = .ok v w := by
  obtain ⟨i, z, hi, hz, h1, h2, h3⟩ := hT.info
  rcases h.2 with ⟨rfl, hn⟩ | ⟨g, cap, cur, rfl, hb, hg, hnc, hcm, hcs, htake⟩
  · simp [Builtin.append_, run_underlying hT.u, sizeOf, typeInfo, hi, Builtin.lenOf, Builtin.firstCells]
  · simp [Builtin.append_, run_underlying hT.u, sizeOf, typeInfo, hi, Builtin.lenOf, Builtin.firstCells, hnc, storeCells]
theorem SlOwn.append (hT : ElT P T E f n B) {w : World} {base : Nat} {v : Value} {l q : List α} {a : Option Addr} {c : Nat} (h : SlOwn f n E w base v l) (hq : SlAt f n w a q) (hlen : l.length + q.length ≤ 1000000) (hB : B ≤ 100000000) (hbase : base ≤ w.heap.size) (ty : TypeId) :
    ∃ v' w', (Builtin.append_ #[T, T] ty #[v, .slice a q.length c]).run P w = .ok v' w' ∧ SlOwn f n E w' base v' (l ++ q) ∧ Mod (fun i => v.ownBlock = some i) w w' ∧ (v'.ownBlock = v.ownBlock ∨ v'.ownBlock = some w.heap.size) := by
  obtain ⟨i0, z, hi, hz, hz1, hz2, hz3⟩ := hT.info
  have hbytes : (l.length + q.length) * B ≤ 140737488355328 := by
    have : (l.length + q.length) * B ≤ 1000000 * 100000000 := Nat.mul_le_mul hlen hB
    omega
  cases a with
  | none =>
    obtain rfl : q = [] := by
      rcases hq with h | ⟨_, _, _, _, _, h, _⟩
      · exact h
      · cases h
    refine ⟨v, w, append_none (t := T) hT h ty c, by rwa [List.append_nil], Mod.refl _ _, .inl rfl⟩
  | some ad =>
    obtain ⟨v', w', hrun, hown, hg, _, hat⟩ := run_append_own_at (P := P) w base T ty E i0 z n B hT.u hi hz hz1 hz2 hz3 hT.pos v l.length (cellsOf f l) h ad q.length c (cellsOf f q) (cellsOf_len hT.size q) (fun j u hu => by
      have hj : j < (cellsOf f q).length := (List.getElem?_eq_some_iff.1 hu).1
      rw [cellsOf_len hT.size] at hj
      have hn := hT.pos
      have hd : j / n < q.length := Nat.div_lt_of_lt_mul (by rw [Nat.mul_comm]; exact hj)
      obtain ⟨x, hx⟩ : ∃ x, q[j / n]? = some x := ⟨_, List.getElem?_eq_getElem hd⟩
      obtain ⟨b, o, C, U, fr, ha, hb, he, hsz⟩ := hq.block hx
      cases ha
      have hjm : j / n * n + j % n = j := by rw [Nat.mul_comm]; exact Nat.div_add_mod j n
      have hlt := Nat.mod_lt j hn
      have hget := cellsOf_get hT.size q (j / n) x hx
      have hv : (f x)[j % n]? = some u := by
        have h1 := congrArg (fun L => L[j % n]?) hget
        simp only [List.getElem?_take, List.getElem?_drop, hlt, if_true, hjm] at h1
        rw [hu] at h1
        simpa using h1.symm
      have hcell := cell_in hb he hv
      have hadd : (⟨b, o, none⟩ : Addr).add j = ⟨b, o + j / n * n + j % n, none⟩ := by
        rw [Nat.add_assoc, hjm]
        unfold Addr.add
        split <;> simp_all
      rw [hadd]
      exact hcell) (fun u hu => by
      obtain ⟨x, _, hx⟩ := List.mem_flatMap.1 hu
      exact hT.one x u hx) (by simp [maxLen]; omega) (by
      exact hbytes) hbase
    refine ⟨v', w', hrun, ?_, ⟨hg.os, hg.tape, hg.output, hg.size, fun i hi hs => hg.block i hi (fun e => hs e.symm)⟩, hat⟩
    unfold SlOwn
    rw [cellsOf_append, List.length_append]
    exact hown
end
theorem roleT : ElT Try.prog 23 44 rcr 34 34 where
  u := Try.underlying23
  info := by
    obtain ⟨i0, hi, hz0, hz1, hz2⟩ := info_parts (show (Try.prog.info? 44).map (fun i => (i.zero, i.size, i.bytes)) = some (some (.agg zRole), 34, 34) by kernel_rfl)
    exact ⟨i0, _, hi, hz0, hz1, hz2, zRole_size⟩
  pos := by omega
  size r := rc_size _ _ _
  one r := rc_onecell _ _ _
theorem acv_one (x : Act') : ∀ u ∈ (acv x).toList, u.oneCell' = true := by
  intro u hu
  simp [acv, Sl.v] at hu
  rcases hu with rfl | rfl | rfl <;> rfl
theorem actT : ElT Try.prog 22 34 acv 3 40 where
  u := Try.underlying22
  info := by
    obtain ⟨i0, hi, hz0, hz1, hz2⟩ := info_parts (show (Try.prog.info? 34).map (fun i => (i.zero, i.size, i.bytes)) = some (some (.agg #[.bool false, .slice none 0 0, .int .i64 0]), 3, 40) by kernel_rfl)
    exact ⟨i0, _, hi, hz0, hz1, hz2, rfl⟩
  pos := by omega
  size x := rfl
  one := acv_one
end Go.Proofs.Ytleenmldlbccmaa
