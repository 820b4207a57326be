/- Slices cut and joined again: one element taken out of a slice that the call owns. -/
import Derived.Test.YtleenmldlbccmaaOff
namespace Go.Proofs.Ytleenmldlbccmaa
set_option linter.unusedVariables false
set_option linter.unusedSimpArgs false
set_option linter.unusedSectionVars false
open Go.RowKit
open Go.ChangeMaps (setBlock)
section
variable {α : Type} {f : α → Array Value} {n B : Nat} {P : Program} {T E : TypeId}
theorem sl_drop (hT : ElT P T E f n B) {g o cap len k : Nat} (hk : k ≤ len) (hc : len ≤ cap) (w : World) :
    (Instr.sliceAt T (.slice (some ⟨g, o, none⟩) len cap) (some (.int .i64 (k : Int))) none none).run P w = .ok (.slice (some (if cap = k then ⟨g, o, none⟩ else ⟨g, o + k * n, none⟩)) (len - k) (cap - k)) w := by
  obtain ⟨i0, z, hi, hz, hz1, hz2, hz3⟩ := hT.info
  have hadd : (⟨g, o, none⟩ : Addr).add (k * n) = ⟨g, o + k * n, none⟩ := by
    unfold Addr.add
    split <;> simp_all
  have hp : (0 : Int) ≤ (k : Int) ∧ (k : Int) ≤ (len : Int) := ⟨by omega, by omega⟩
  simp only [Instr.sliceAt, Instr.slice, Instr.sliceBounds, Instr.sliceBound, asIntOf, sizeOf, typeInfo, run_underlying hT.u, hi, Sem.run_bind, Sem.run_pure, Result.andThen_ok]
  rw [if_pos hp]
  simp only [Sem.run_pure, Result.andThen_ok, Go.program, Sem.run, hi, hz1, Option.map_some, Int.toNat_natCast, hadd]
  by_cases hc1 : cap = k <;> simp [hc1]
theorem sl_take (hT : ElT P T E f n B) {g o cap len k : Nat} (hk : k ≤ cap) (w : World) :
    (Instr.sliceAt T (.slice (some ⟨g, o, none⟩) len cap) none (some (.int .i64 (k : Int))) none).run P w = .ok (.slice (some ⟨g, o, none⟩) k cap) w := by
  obtain ⟨i0, z, hi, hz, hz1, hz2, hz3⟩ := hT.info
  have hadd : (⟨g, o, none⟩ : Addr).add (0 * n) = ⟨g, o, none⟩ := by
    unfold Addr.add
    rw [Nat.zero_mul, if_pos rfl]
  have hp : (0 : Int) ≤ (k : Int) ∧ (k : Int) ≤ (cap : Int) := ⟨by omega, by omega⟩
  simp only [Instr.sliceAt, Instr.slice, Instr.sliceBounds, Instr.sliceBound, asIntOf, sizeOf, typeInfo, run_underlying hT.u, hi, Sem.run_bind, Sem.run_pure, Result.andThen_ok]
  rw [if_pos hp]
  simp only [Sem.run_pure, Result.andThen_ok, Go.program, Sem.run, hi, hz1, Option.map_some, Int.toNat_natCast, hadd, Nat.sub_zero, ite_self]
/-- The element at p taken out. -/
theorem SlOff.del (hT : ElT P T E f n B) {w : World} {base : Nat} {v : Value} {l : List α} (h : SlOff f n E w base v l) {p : Nat} (hp : p < l.length) (ty : TypeId) :
    ∃ v1 v2, (∀ w, (Instr.sliceAt T v none (some (.int .i64 (p : Int))) none).run P w = .ok v1 w) ∧ (∀ w, (Instr.sliceAt T v (some (.int .i64 ((p + 1 : Nat) : Int))) none none).run P w = .ok v2 w) ∧
      ∀ w, SlOff f n E w base v l → ∃ v' w', (Builtin.append_ #[T, T] ty #[v1, v2]).run P w = .ok v' w' ∧ SlOff f n E w' base v' (l.eraseIdx p) ∧ Mod (fun i => v.ownBlock = some i) w w' ∧ v'.ownBlock = v.ownBlock := by
  obtain ⟨i0, z, hi, hz, hz1, hz2, hz3⟩ := hT.info
  rcases h with ⟨_, rfl⟩ | ⟨g, o, cap, cur0, rfl, _, _, hnc, hcm, _, _⟩
  · simp at hp
  · refine ⟨_, _, sl_take hT (by omega), sl_drop hT (by omega) hnc, fun w h => ?_⟩
    rcases h with ⟨h, _⟩ | ⟨g', o', cap', cur, hv, hb, hg, _, _, hcs, htake⟩
    · cases h
    · simp only [Value.slice.injEq, Option.some.injEq, Addr.mk.injEq, and_true, true_and] at hv
      obtain ⟨⟨rfl, rfl⟩, rfl⟩ := hv
      have hcs := hcs (by omega)
      have hm : (l.drop (p + 1)).length = l.length - (p + 1) := List.length_drop
      have hl := cellsOf_len hT.size (l.drop (p + 1))
      rw [hm] at hl
      have hmul : l.length * n ≤ cap * n := Nat.mul_le_mul_right _ hnc
      have hpn : p * n + n + (l.length - (p + 1)) * n = l.length * n := by
        rw [← Nat.succ_mul, ← Nat.add_mul]
        congr 1
        omega
      have hsplit : cellsOf f l = cellsOf f (l.take p) ++ (cellsOf f [l[p]] ++ cellsOf f (l.drop (p + 1))) := by
        rw [← cellsOf_append, ← cellsOf_append, List.singleton_append, ← List.drop_eq_getElem_cons hp, List.take_append_drop]
      have h1l := cellsOf_len hT.size (l.take p)
      rw [List.length_take, Nat.min_eq_left (by omega)] at h1l
      have h2l := cellsOf_len hT.size [l[p]]
      rw [List.length_singleton, Nat.one_mul] at h2l
      have hdrop : (cur.toList.drop (o + (p + 1) * n)).take ((l.length - (p + 1)) * n) = cellsOf f (l.drop (p + 1)) := by
        have h3 := congrArg (fun L => L.drop ((p + 1) * n)) htake
        rw [hsplit, ← List.append_assoc] at h3
        have h4 : (p + 1) * n = (cellsOf f (l.take p) ++ cellsOf f [l[p]]).length := by rw [List.length_append, h1l, h2l, Nat.succ_mul]
        have h5 : (cellsOf f (l.take p) ++ cellsOf f [l[p]] ++ cellsOf f (l.drop (p + 1))).drop ((p + 1) * n) = cellsOf f (l.drop (p + 1)) := by rw [h4, List.drop_left]
        rw [h5, List.drop_take, List.drop_drop] at h3
        rw [← h3]
        congr 1
        rw [← hpn, Nat.succ_mul]
        omega
      have hnews : ∀ j u, (cellsOf f (l.drop (p + 1)))[j]? = some u → w.cell? ((if cap = p + 1 then (⟨g, o, none⟩ : Addr) else ⟨g, o + (p + 1) * n, none⟩).add j) = some u := by
        by_cases hc1 : cap = p + 1
        · have : l.drop (p + 1) = [] := List.drop_of_length_le (by omega)
          rw [this]
          intro j u hu
          simp [cellsOf] at hu
        · rw [if_neg hc1]
          intro j u hu
          have hj : j < (cellsOf f (l.drop (p + 1))).length := (List.getElem?_eq_some_iff.1 hu).1
          rw [hl] at hj
          have hadd : (⟨g, o + (p + 1) * n, none⟩ : Addr).add j = ⟨g, o + (p + 1) * n + j, none⟩ := by
            unfold Addr.add
            split <;> simp_all
          rw [hadd]
          unfold World.cell?
          rw [hg]
          rw [← hdrop] at hu
          simp only [List.getElem?_take, List.getElem?_drop] at hu
          rw [if_pos hj] at hu
          simpa using hu
      have hrun := run_append_room_cells (P := P) w T ty E i0 hT.u hi g o p cap (if cap = p + 1 then (⟨g, o, none⟩ : Addr) else ⟨g, o + (p + 1) * n, none⟩) (l.length - (p + 1)) (cap - (p + 1)) (cellsOf f (l.drop (p + 1))) (by rw [hl, hz1]) hnews (cellsOf_one hT _) (by omega) (fun j hj => by
        rw [hl] at hj
        rw [hz1]
        unfold World.cell?
        rw [hg]
        simp
        omega) (fun j hj => by
        unfold World.frozen?
        rw [hg]
        simp)
      rw [hz1, setCells_blk _ w g _ cur E (0, 0) hg] at hrun
      have hle : (l.eraseIdx p).length = p + (l.length - (p + 1)) := by rw [List.length_eraseIdx, if_pos hp]; omega
      refine ⟨_, _, hrun, .inr ⟨g, o, cap, wr cur (o + p * n) (cellsOf f (l.drop (p + 1))), by rw [hle], hb, heap_setBlock w _ (lt_size hg), by rw [hle]; omega, hcm, fun _ => by rw [wr_size]; exact hcs, ?_⟩, (mod_set w g _).mono (fun i _ e => by subst e; rfl), rfl⟩
      have hcl : cur.toList.length = cur.size := Array.length_toList
      rw [wr_list _ _ _ (by rw [hl]; omega), hle, List.eraseIdx_eq_take_drop_succ, cellsOf_append]
      have e1 : (cur.toList.take (o + p * n) ++ cellsOf f (l.drop (p + 1)) ++ cur.toList.drop (o + p * n + (cellsOf f (l.drop (p + 1))).length)).drop o = ((cur.toList.drop o).take (p * n)) ++ cellsOf f (l.drop (p + 1)) ++ cur.toList.drop (o + p * n + (cellsOf f (l.drop (p + 1))).length) := by
        rw [List.append_assoc, List.drop_append_of_le_length (by rw [List.length_take, hcl]; omega), List.drop_take, Nat.add_sub_cancel_left, List.append_assoc]
      have e2 : (cur.toList.drop o).take (p * n) = cellsOf f (l.take p) := by
        have h3 := congrArg (fun L => L.take (p * n)) htake
        rw [hsplit] at h3
        have h5 : (cellsOf f (l.take p) ++ (cellsOf f [l[p]] ++ cellsOf f (l.drop (p + 1)))).take (p * n) = cellsOf f (l.take p) := by rw [← h1l, List.take_left]
        rw [h5, List.take_take, Nat.min_eq_left (by omega)] at h3
        exact h3
      rw [e1, e2]
      have : (p + (l.length - (p + 1))) * n = (cellsOf f (l.take p) ++ cellsOf f (l.drop (p + 1))).length := by rw [List.length_append, h1l, hl, Nat.add_mul]
      rw [this, List.take_left]
end
end Go.Proofs.Ytleenmldlbccmaa
