/- Slices that a call owns, whose head may have been cut off: what they read as, appending to them, cutting the head off. -/
import Derived.Test.YtleenmldlbccmaaOwnG
import Derived.ArgAppend
namespace Go.Proofs.Ytleenmldlbccmaa
set_option linter.unusedVariables false
set_option linter.unusedSimpArgs false
set_option linter.unusedSectionVars false
open Go.RowKit
open Go.ChangeMaps (setBlock)
section
variable {α : Type} {f : α → Array Value} {n B : Nat} {P : Program} {T E : TypeId}
def SlOff (f : α → Array Value) (n : Nat) (E : TypeId) (w : World) (base : Nat) (v : Value) (l : List α) : Prop :=
  (v = .slice none 0 0 ∧ l = []) ∨
  ∃ g o cap cur, v = .slice (some ⟨g, o, none⟩) l.length cap ∧ base ≤ g ∧ w.heap[g]? = some (.cells cur E (0, 0)) ∧ l.length ≤ cap ∧ cap ≤ maxLen ∧ (0 < cap → o + cap * n ≤ cur.size) ∧ (cur.toList.drop o).take (l.length * n) = cellsOf f l
theorem SlOwn.off {w : World} {base : Nat} {v : Value} {l : List α} (h : SlOwn f n E w base v l) : SlOff f n E w base v l := by
  rcases h.2 with ⟨rfl, hn⟩ | ⟨g, cap, cur, rfl, hb, hg, hnc, hcm, hcs, htake⟩
  · exact .inl ⟨rfl, List.eq_nil_of_length_eq_zero hn⟩
  · exact .inr ⟨g, 0, cap, cur, rfl, hb, hg, hnc, hcm, fun _ => by omega, by rw [List.drop_zero]; exact htake⟩
theorem SlOff.nil (w : World) (base : Nat) : SlOff f n E w base (.slice none 0 0) [] := .inl ⟨rfl, rfl⟩
theorem SlOff.mod {w w' : World} {base : Nat} {v : Value} {l : List α} {S : Nat → Prop} (h : SlOff f n E w base v l) (hm : Mod S w w') (hS : ∀ b, v.ownBlock = some b → ¬ S b) : SlOff f n E w' base v l := by
  rcases h with hn | ⟨g, o, cap, cur, rfl, hb, hg, rest⟩
  · exact .inl hn
  · exact .inr ⟨g, o, cap, cur, rfl, hb, hm.at hg (hS g rfl), rest⟩
theorem SlOff.mod0 {w w' : World} {base : Nat} {v : Value} {l : List α} (h : SlOff f n E w base v l) (hm : Mod (fun _ => False) w w') : SlOff f n E w' base v l := h.mod hm (fun _ _ h => h)
theorem SlOff.lt {w : World} {base : Nat} {v : Value} {l : List α} (h : SlOff f n E w base v l) : ∀ k, v.ownBlock = some k → base ≤ k ∧ k < w.heap.size := by
  intro k hk
  rcases h with ⟨rfl, _⟩ | ⟨g, o, cap, cur, rfl, hb, hg, _⟩
  · cases hk
  · cases hk
    exact ⟨hb, lt_size hg⟩
theorem SlOff.at (hT : ElT P T E f n B) {w : World} {base : Nat} {v : Value} {l : List α} (h : SlOff f n E w base v l) :
    ∃ a c, v = .slice a l.length c ∧ SlAt f n w a l ∧ (∀ x, a = some x → base ≤ x.block ∧ x.block < w.heap.size ∧ v.ownBlock = some x.block) ∧ l.length ≤ maxLen := by
  rcases h with ⟨rfl, rfl⟩ | ⟨g, o, cap, cur, rfl, hb, hg, hnc, hcm, hcs, htake⟩
  · exact ⟨none, 0, rfl, .inl rfl, fun x hx => (by cases hx), (by simp)⟩
  · refine ⟨_, cap, rfl, .inr ⟨g, o, cur, _, _, rfl, hg, fun i r hr => ?_⟩, fun x hx => ?_, Nat.le_trans hnc hcm⟩
    · have hi : i < l.length := (List.getElem?_eq_some_iff.1 hr).1
      have hle : (i + 1) * n ≤ cap * n := Nat.mul_le_mul_right _ (by omega)
      have hle2 : (i + 1) * n ≤ l.length * n := Nat.mul_le_mul_right _ hi
      have hcs := hcs (by omega)
      rw [Nat.add_mul, Nat.one_mul] at hle hle2
      refine ⟨?_, by omega⟩
      have h1 := cellsOf_get hT.size l i r hr
      rw [← htake] at h1
      have h2 : (((cur.toList.drop o).take (l.length * n)).drop (i * n)).take n = (cur.toList.drop (o + i * n)).take n := by
        rw [List.drop_take, List.take_take, Nat.min_eq_left (by omega), List.drop_drop]
      rw [h2] at h1
      apply Array.ext'
      rw [← h1, Array.toList_extract]
      simp [List.extract]
    · cases hx
      exact ⟨hb, lt_size hg, rfl⟩
/-- The cells of q, where they lie. -/
theorem SlAt.news (hT : ElT P T E f n B) {w : World} {ad : Addr} {q : List α} (hq : SlAt f n w (some ad) q) : ∀ j u, (cellsOf f q)[j]? = some u → w.cell? (ad.add j) = some u := fun j u hu => by
  have hj : j < (cellsOf f q).length := (List.getElem?_eq_some_iff.1 hu).1
  rw [cellsOf_len hT.size] at hj
  have hn := hT.pos
  have hd : j / n < q.length := Nat.div_lt_of_lt_mul (by rw [Nat.mul_comm]; exact hj)
  obtain ⟨x, hx⟩ : ∃ x, q[j / n]? = some x := ⟨_, List.getElem?_eq_getElem hd⟩
  obtain ⟨b, o, C, U, fr, ha, hb, he, hsz⟩ := hq.block hx
  cases ha
  have hjm : j / n * n + j % n = j := by rw [Nat.mul_comm]; exact Nat.div_add_mod j n
  have hlt := Nat.mod_lt j hn
  have hget := cellsOf_get hT.size q (j / n) x hx
  have hv : (f x)[j % n]? = some u := by
    have h1 := congrArg (fun L => L[j % n]?) hget
    simp only [List.getElem?_take, List.getElem?_drop, hlt, if_true, hjm] at h1
    rw [hu] at h1
    simpa using h1.symm
  have hcell := cell_in hb he hv
  have hadd : (⟨b, o, none⟩ : Addr).add j = ⟨b, o + j / n * n + j % n, none⟩ := by
    rw [Nat.add_assoc, hjm]
    unfold Addr.add
    split <;> simp_all
  rw [hadd]
  exact hcell
theorem cellsOf_one (hT : ElT P T E f n B) (q : List α) : ∀ u ∈ cellsOf f q, u.oneCell' = true := fun u hu => by
  obtain ⟨x, _, hx⟩ := List.mem_flatMap.1 hu
  exact hT.one x u hx
theorem SlOff.append (hT : ElT P T E f n B) {w : World} {base : Nat} {v : Value} {l q : List α} {a : Option Addr} {c : Nat} (h : SlOff f n E w base v l) (hq : SlAt f n w a q) (hlen : l.length + q.length ≤ 1000000) (hB : B ≤ 100000000) (hbase : base ≤ w.heap.size) (ty : TypeId) :
    ∃ v' w', (Builtin.append_ #[T, T] ty #[v, .slice a q.length c]).run P w = .ok v' w' ∧ SlOff f n E w' base v' (l ++ q) ∧ Mod (fun i => v.ownBlock = some i) w w' ∧ (∀ k, v'.ownBlock = some k → v.ownBlock = some k ∨ w.heap.size ≤ k) := by
  obtain ⟨i0, z, hi, hz, hz1, hz2, hz3⟩ := hT.info
  have hbytes : (l.length + q.length) * B ≤ 140737488355328 := by
    have : (l.length + q.length) * B ≤ 1000000 * 100000000 := Nat.mul_le_mul hlen hB
    omega
  rcases id h with ⟨rfl, rfl⟩ | ⟨g, o, cap, cur, rfl, hb, hg, hnc, hcm, hcs, htake⟩
  · obtain ⟨v', w', h1, h2, h3, h4⟩ := SlOwn.append hT (c := c) (SlOwn.nil w base) hq hlen hB hbase ty
    exact ⟨v', w', h1, h2.off, h3, fun k hk => by rcases h4 with h4 | h4 <;> rw [h4] at hk <;> cases hk; exact .inr (Nat.le_refl _)⟩
  · cases a with
    | none =>
      obtain rfl : q = [] := by
        rcases hq with h | ⟨_, _, _, _, _, h, _⟩
        · exact h
        · cases h
      refine ⟨.slice (some ⟨g, o, none⟩) l.length cap, w, ?_, by rw [List.append_nil]; exact h, Mod.refl _ _, fun _ => .inl⟩
      simp [Builtin.append_, run_underlying hT.u, sizeOf, typeInfo, hi, Builtin.lenOf, Builtin.firstCells, hnc, storeCells]
    | some ad =>
      have hl := cellsOf_len hT.size q
      have hnews := SlAt.news hT hq
      have h1 := cellsOf_one hT q
      by_cases hroom : l.length + q.length ≤ cap
      · by_cases hc0 : cap = 0
        · subst hc0
          obtain rfl : l = [] := List.eq_nil_of_length_eq_zero (by omega)
          obtain rfl : q = [] := List.eq_nil_of_length_eq_zero (by omega)
          refine ⟨.slice (some ⟨g, o, none⟩) 0 0, w, ?_, by rw [List.append_nil]; exact h, Mod.refl _ _, fun _ => .inl⟩
          have := run_append_room_cells (P := P) w T ty E i0 hT.u hi g o 0 0 ad 0 c [] (by simp) (by simp) (by simp) (by omega) (by simp) (by simp)
          exact this
        · have hcs := hcs (by omega)
          have hmul : (l.length + q.length) * n ≤ cap * n := Nat.mul_le_mul_right _ hroom
          rw [Nat.add_mul] at hmul
          have hrun := run_append_room_cells (P := P) w T ty E i0 hT.u hi g o l.length cap ad q.length c (cellsOf f q) (by rw [hl, hz1]) hnews h1 hroom (fun j hj => by
            rw [hl] at hj
            rw [hz1]
            unfold World.cell?
            rw [hg]
            simp
            omega) (fun j hj => by
            unfold World.frozen?
            rw [hg]
            simp)
          rw [hz1, setCells_blk _ w g _ cur E (0, 0) hg] at hrun
          refine ⟨_, _, hrun, .inr ⟨g, o, cap, wr cur (o + l.length * n) (cellsOf f q), by rw [List.length_append], hb, heap_setBlock w _ (lt_size hg), by rw [List.length_append]; omega, hcm, fun _ => by rw [wr_size]; exact hcs, ?_⟩, (mod_set w g _).mono (fun i _ e => by subst e; rfl), fun _ => .inl⟩
          rw [wr_list _ _ _ (by rw [hl]; omega), cellsOf_append, List.length_append, Nat.add_mul]
          have hcl : cur.toList.length = cur.size := Array.length_toList
          have e1 : (cur.toList.take (o + l.length * n) ++ cellsOf f q ++ cur.toList.drop (o + l.length * n + (cellsOf f q).length)).drop o = ((cur.toList.drop o).take (l.length * n)) ++ cellsOf f q ++ cur.toList.drop (o + l.length * n + (cellsOf f q).length) := by
            rw [List.append_assoc, List.drop_append_of_le_length (by rw [List.length_take, hcl]; omega), List.drop_take, Nat.add_sub_cancel_left, List.append_assoc]
          rw [e1, htake]
          have hll := cellsOf_len hT.size l
          have : l.length * n + q.length * n = (cellsOf f l ++ cellsOf f q).length := by rw [List.length_append, hll, hl]
          rw [this, List.take_left]
      · obtain ⟨v', w', hrun, hown, hgr⟩ := run_append_arg_grows (P := P) w T ty E i0 z n B hT.u hi hz hz1 hz2 hz3 hT.pos ⟨g, o, none⟩ l.length cap (cellsOf f l) (cellsOf_len hT.size l) (by
          obtain ⟨a', c', hv, hat, _, _⟩ := h.at hT
          cases hv
          exact SlAt.news hT hat) ad q.length c (cellsOf f q) hl hnews (by omega) (by simp [maxLen]; omega) hbytes
        have hown2 : SlOwn f n E w' w.heap.size v' (l ++ q) := by
          unfold SlOwn
          rw [cellsOf_append, List.length_append]
          exact hown
        have hm : Mod (fun _ => False) w w' := ⟨hgr.os, hgr.tape, hgr.output, hgr.size, fun i hi hs => hgr.block i hi (by simp)⟩
        refine ⟨v', w', hrun, ?_, hm.mono (fun _ _ h => h.elim), ?_⟩
        · rcases hown2.off with hn | ⟨g', o', cap', cur', h1, h2, rest⟩
          · exact .inl hn
          · exact .inr ⟨g', o', cap', cur', h1, by omega, rest⟩
        · exact fun k hk => .inr (hown2.lt k hk).1
/-- The head cut off. -/
theorem run_tail (hT : ElT P T E f n B) {w : World} {base : Nat} {v : Value} {x : α} {l : List α} (h : SlOff f n E w base v (x :: l)) :
    ∃ v', (∀ w', (Instr.sliceAt T v (some (.int .i64 1)) none none).run P w' = .ok v' w') ∧ SlOff f n E w base v' l ∧ v'.ownBlock = v.ownBlock := by
  obtain ⟨i0, z, hi, hz, hz1, hz2, hz3⟩ := hT.info
  rcases h with ⟨_, h⟩ | ⟨g, o, cap, cur, rfl, hb, hg, hnc, hcm, hcs, htake⟩
  · cases h
  · simp only [List.length_cons] at hnc htake ⊢
    have hcs := hcs (by omega)
    have hn := hT.pos
    refine ⟨.slice (some (if cap = 1 then ⟨g, o, none⟩ else ⟨g, o + n, none⟩)) l.length (cap - 1), fun w => ?_, ?_, ?_⟩
    · have hadd : (⟨g, o, none⟩ : Addr).add n = ⟨g, o + n, none⟩ := by
        unfold Addr.add
        rw [if_neg (by omega)]
      have h1 : (1 : Int) ≤ (l.length : Int) + 1 := by omega
      simp only [Instr.sliceAt, Instr.slice, Instr.sliceBounds, Instr.sliceBound, asIntOf, sizeOf, typeInfo, run_underlying hT.u, hi, Sem.run_bind, Sem.run_pure, Result.andThen_ok]
      have hp : (0 : Int) ≤ 1 ∧ (1 : Int) ≤ ((l.length + 1 : Nat) : Int) := ⟨by omega, by omega⟩
      rw [if_pos hp]
      simp only [Sem.run_pure, Result.andThen_ok, Go.program, Sem.run, hi, hz1, Option.map_some, show Int.toNat 1 = 1 from rfl, Nat.one_mul, hadd, Nat.add_sub_cancel]
      by_cases hc1 : cap = 1
      · simp [hc1]
      · simp [hc1]
    · refine .inr ⟨g, if cap = 1 then o else o + n, cap - 1, cur, ?_, hb, hg, by omega, by omega, fun h0 => ?_, ?_⟩
      · by_cases hc1 : cap = 1 <;> simp [hc1]
      · rw [if_neg (by omega)]
        have : (cap - 1) * n + n = cap * n := by rw [← Nat.succ_mul]; congr 1; omega
        omega
      · by_cases hc1 : cap = 1
        · have : l = [] := List.eq_nil_of_length_eq_zero (by omega)
          subst this
          simp [cellsOf]
        · rw [if_neg hc1]
          have h2 := congrArg (fun L => L.drop n) htake
          have hfx : (f x).toList.length = n := by rw [Array.length_toList, hT.size]
          have e : cellsOf f (x :: l) = (f x).toList ++ cellsOf f l := by simp [cellsOf]
          rw [e] at h2
          rw [← hfx, List.drop_left, hfx, List.drop_take, List.drop_drop, Nat.succ_mul, Nat.add_sub_cancel] at h2
          exact h2
    · split <;> rfl
end
end Go.Proofs.Ytleenmldlbccmaa
