/- The latest hashes, in plain Lean: a ring of 150 places reads as a list, the newest first. -/
import Derived.Test.YtofpnmoeimjnnaaLib
namespace Go.Proofs.Ytofpnmoeimjnnaa
set_option linter.unusedVariables false
/-- A ring of hashes, where the next one goes, and how many there are, read as a list. -/
structure QIs (R : List Key) (next : Nat) (L : List Key) : Prop where
  size : R.length = 150
  nlt : next < 150
  len : L.length ≤ 150
  at' : ∀ i, i < L.length → R[(next + 299 - i) % 150]? = L[i]?
theorem QIs.zero (R : List Key) (h : R.length = 150) : QIs R 0 [] := ⟨h, by omega, by simp, fun i hi => by simp at hi⟩
theorem QIs.push {R : List Key} {next : Nat} {L : List Key} (h : QIs R next L) (k : Key) : QIs (R.set next k) ((next + 1) % 150) ((k :: L).take 150) where
  size := by rw [List.length_set, h.size]
  nlt := Nat.mod_lt _ (by omega)
  len := by rw [List.length_take]; omega
  at' i hi := by
    have hn := h.nlt
    have hs := h.size
    rw [List.length_take, List.length_cons] at hi
    rw [List.getElem?_take_of_lt (by omega)]
    cases i with
    | zero =>
      have e : ((next + 1) % 150 + 299 - 0) % 150 = next := by omega
      rw [e, List.getElem?_set_self (by omega)]
      rfl
    | succ i =>
      have e : ((next + 1) % 150 + 299 - (i + 1)) % 150 = (next + 299 - i) % 150 := by omega
      rw [e, List.getElem?_set_ne (by omega), h.at' i (by omega), List.getElem?_cons_succ]
theorem QIs.many {R : List Key} {next : Nat} {L : List Key} (h : QIs R next L) (k : Key) : ((k :: L).take 150).length = if L.length = 150 then 150 else L.length + 1 := by
  have := h.len
  rw [List.length_take, List.length_cons]
  split <;> omega
end Go.Proofs.Ytofpnmoeimjnnaa
