/- A list of acts, read off the given reading. -/
import Derived.Test.YtleenmldlbccmaaArg
namespace Go.Proofs.Ytleenmldlbccmaa
set_option linter.unusedVariables false
set_option linter.unusedSimpArgs false
open Go.ChangeShapes Go.WideShapes Go.ChangeAt Go.RowKit
def ActsAt (w : World) (a : Option Addr) (l : List ActT) : Prop :=
  l = [] ∨ ∃ b o C U fr, a = some ⟨b, o, none⟩ ∧ w.heap[b]? = some (.cells C U fr) ∧
    ∀ i x, l[i]? = some x → C.extract (o + i * 3) (o + i * 3 + 3) = (ac x).toArray ∧ o + i * 3 + 3 ≤ C.size
section
variable {H : Type} {enc : TypeId × Value → H} {w : World} {base : Nat} {sp : Nat → Bool} {held : Bool}
theorem acts_of {fuel : Nat} {cs : List Value} {x : DataW H × List MemPlace} (h : DataW.trod enc Try.prog w base sp held fuel 22 cs = some x) :
    ∃ (a : Option Addr) (l : List ActT) (c : Nat), cs = [.slice a l.length c] ∧ ActsAt w a l ∧ (∀ x ∈ l, ActOk w x) ∧ l.length ≤ maxLen ∧ (∀ x, a = some x → x.block < w.heap.size ∨ l = []) := by
  rcases DataW.trod_slice Try.underlying22 h with ⟨rfl, _⟩ | ⟨a, len, cap, elems, rest, n, rfl, rfl, rfl, _, hlc, hcm, hel, hi, _⟩
  · exact ⟨none, [], 0, rfl, .inl rfl, fun x hx => (by simp at hx), by simp, fun x hx => by cases hx⟩
  · have hrow : ∀ i, i < len → ∃ (r : ActT), ActOk w r ∧ ∃ (C : Array Value) (U : TypeId) (fr : Nat × Nat), a = ⟨a.block, a.off, none⟩ ∧ w.heap[a.block]? = some (.cells C U fr) ∧ C.extract (a.off + i * 3) (a.off + i * 3 + 3) = (ac r).toArray ∧ a.off + i * 3 + 3 ≤ C.size := fun i hlt => by
      have hq := hi i hlt
      rw [List.getElem?_eq_getElem (by omega), show Try.prog.cellsOf 34 = 3 by kernel_rfl, Option.bind_eq_some_iff] at hq
      obtain ⟨c1, hc1, ht⟩ := hq
      obtain ⟨r, hr, hok⟩ := act_of ht
      obtain ⟨_, C, U, fr, ha, hb, he, hsz⟩ := cells_row hc1 (by omega)
      rw [hr] at he
      unfold Addr.add at ha hb he hsz
      by_cases h0 : i * 3 = 0
      · rw [if_pos h0] at ha hb he hsz
        exact ⟨r, hok, C, U, fr, ha, hb, by rw [h0]; exact he, by omega⟩
      · rw [if_neg h0] at ha hb he hsz
        have hi0 : 0 < i := by omega
        have hq0 := hi 0 (by omega)
        rw [List.getElem?_eq_getElem (by omega), show Try.prog.cellsOf 34 = 3 by kernel_rfl, Option.bind_eq_some_iff] at hq0
        obtain ⟨c2, hc2, _⟩ := hq0
        obtain ⟨_, _, _, _, ha2, _⟩ := cells_row hc2 (by omega)
        exact ⟨r, hok, C, U, fr, ha2, hb, he, hsz⟩
    let g : Nat → ActT := fun i => if hlt : i < len then (hrow i hlt).choose else ⟨false, none, [], 0, 0⟩
    have hg : ∀ i, i < len → ActOk w (g i) := fun i hlt => by
      have : g i = (hrow i hlt).choose := by
        show (if hlt : i < len then (hrow i hlt).choose else _) = _
        rw [dif_pos hlt]
      rw [this]
      exact (hrow i hlt).choose_spec.1
    refine ⟨some a, (List.range len).map g, cap, by simp, ?_, fun x hx => ?_, by simp; omega, fun x hx => ?_⟩
    · by_cases hz : len = 0
      · subst hz
        exact .inl rfl
      · obtain ⟨r0, _, C, U, fr, ha, hb, _, _⟩ := hrow 0 (by omega)
        refine .inr ⟨a.block, a.off, C, U, fr, by rw [← ha], hb, fun i r hr => ?_⟩
        rw [List.getElem?_map] at hr
        by_cases hlt : i < len
        · rw [List.getElem?_range hlt] at hr
          simp only [Option.map_some, Option.some.injEq] at hr
          subst hr
          have hs := (hrow i hlt).choose_spec
          obtain ⟨_, C', U', fr', _, hb', he, hsz⟩ := hs
          rw [hb] at hb'
          cases hb'
          show C.extract _ _ = (ac (g i)).toArray ∧ _
          have : g i = (hrow i hlt).choose := by
            show (if hlt : i < len then (hrow i hlt).choose else _) = _
            rw [dif_pos hlt]
          rw [this]
          exact ⟨he, hsz⟩
        · rw [List.getElem?_eq_none (by simp; omega)] at hr
          simp at hr
    · obtain ⟨i, hi, rfl⟩ := List.mem_map.1 hx
      exact hg i (List.mem_range.1 hi)
    · cases hx
      by_cases hz : len = 0
      · subst hz
        exact .inr rfl
      · obtain ⟨r0, _, C, U, fr, ha, hb, _, _⟩ := hrow 0 (by omega)
        exact .inl (lt_size hb)
end
end Go.Proofs.Ytleenmldlbccmaa
