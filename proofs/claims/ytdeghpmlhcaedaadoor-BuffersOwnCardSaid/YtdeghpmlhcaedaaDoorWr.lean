/- Cells written into a block: what a row of elements is behind it. -/
import Derived.Test.YtdeghpmlhcaedaaDoorGen2
namespace Go.Proofs.YtdeghpmlhcaedaaDoor
open Go.RowKit
open Go.ChangeMaps (setBlock)
set_option linter.unusedSimpArgs false
set_option linter.unusedVariables false
theorem wr_get (vs : List Value) (cs : Array Value) (o : Nat) (h : o + vs.length ≤ cs.size) (t : Nat) : (wr cs o vs)[t]? = if o ≤ t ∧ t < o + vs.length then vs[t - o]? else cs[t]? := by
  rw [← Array.getElem?_toList, wr_list vs cs o h]
  have hl : cs.toList.length = cs.size := Array.length_toList
  by_cases h1 : t < o
  · rw [if_neg (by omega), List.append_assoc, List.getElem?_append_left (by rw [List.length_take]; omega), List.getElem?_take, if_pos h1, Array.getElem?_toList]
  · by_cases h2 : t < o + vs.length
    · rw [if_pos ⟨by omega, h2⟩, List.append_assoc, List.getElem?_append_right (by rw [List.length_take]; omega), List.length_take, Nat.min_eq_left (by omega), List.getElem?_append_left (by omega)]
    · rw [if_neg (by omega), List.getElem?_append_right (by rw [List.length_append, List.length_take]; omega), List.length_append, List.length_take, Nat.min_eq_left (by omega), List.getElem?_drop, Array.getElem?_toList]
      congr 1
      omega
theorem row_set {α : Type} {f : α → Array Value} {n o i : Nat} {C : Array Value} {l : List α} (hs : ∀ x, (f x).size = n) (hrow : ∀ j y, l[j]? = some y → C.extract (o + j * n) (o + j * n + n) = f y ∧ o + j * n + n ≤ C.size) (hi : i < l.length) (x : α) :
    ∀ j y, (l.set i x)[j]? = some y → (wr C (o + i * n) (f x).toList).extract (o + j * n) (o + j * n + n) = f y ∧ o + j * n + n ≤ (wr C (o + i * n) (f x).toList).size := by
  intro j y hy
  have hfl : (f x).toList.length = n := by rw [Array.length_toList, hs]
  have hii := (hrow i _ (List.getElem?_eq_getElem hi)).2
  rw [wr_size]
  have hget := fun t => wr_get (f x).toList C (o + i * n) (by rw [hfl]; exact hii) t
  rw [hfl] at hget
  by_cases hj : j = i
  · subst hj
    rw [List.getElem?_set_self hi] at hy
    cases hy
    refine ⟨?_, hii⟩
    apply Array.ext_getElem?
    intro t
    rw [Array.getElem?_extract, wr_size]
    by_cases ht : t < n
    · rw [if_pos (by omega), hget, if_pos (by omega), Nat.add_sub_cancel_left, Array.getElem?_toList]
    · rw [if_neg (by omega), Array.getElem?_eq_none (by rw [hs]; omega)]
  · rw [List.getElem?_set_ne (fun e => hj e.symm)] at hy
    obtain ⟨h1, h2⟩ := hrow j y hy
    refine ⟨?_, h2⟩
    rw [← h1]
    apply Array.ext_getElem?
    intro t
    rw [Array.getElem?_extract, Array.getElem?_extract, wr_size]
    by_cases ht : t < n
    · rw [if_pos (by omega), if_pos (by omega), hget, if_neg]
      intro hh
      rcases Nat.lt_or_ge j i with h | h
      · have : (j + 1) * n ≤ i * n := Nat.mul_le_mul_right _ h
        rw [Nat.add_mul, Nat.one_mul] at this
        omega
      · have : (i + 1) * n ≤ j * n := Nat.mul_le_mul_right _ (by omega)
        rw [Nat.add_mul, Nat.one_mul] at this
        omega
    · rw [if_neg (by omega), if_neg (by omega)]
theorem ite_wr {xs cs : Array Value} {o n : Nat} (h : xs.size = n) : (if o = 0 ∧ n = cs.size then xs else wr cs o xs.toList) = wr cs o xs.toList := by
  split
  · rename_i hh
    obtain ⟨rfl, h2⟩ := hh
    rw [wr_whole _ _ (by omega)]
  · rfl
theorem ite_wr2 {xs cs : Array Value} {o k n : Nat} (h : xs.size = n) : (if (o = 0 ∧ k = 0) ∧ n = cs.size then xs else wr cs (o + k) xs.toList) = wr cs (o + k) xs.toList := by
  split
  · rename_i hh
    obtain ⟨⟨rfl, rfl⟩, h2⟩ := hh
    rw [Nat.zero_add, wr_whole _ _ (by omega)]
  · rfl
end Go.Proofs.YtdeghpmlhcaedaaDoor
