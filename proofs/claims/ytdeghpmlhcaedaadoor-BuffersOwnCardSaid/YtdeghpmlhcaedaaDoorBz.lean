/- Plain laws of a word's bits: the least one, a word without it, a word with one more. -/
namespace Go.Proofs.YtdeghpmlhcaedaaDoor
theorem split_at {x k : Nat} (h1 : x.testBit k = true) (h0 : ∀ i, i < k → x.testBit i = false) : ∃ m, x = 2 ^ k * (2 * m + 1) := by
  have hz : x % 2 ^ k = 0 := by
    apply Nat.eq_of_testBit_eq
    intro i
    rw [Nat.testBit_mod_two_pow, Nat.zero_testBit]
    by_cases hi : i < k
    · rw [h0 i hi, Bool.and_false]
    · rw [decide_eq_false hi, Bool.false_and]
  have h2 : (x / 2 ^ k).testBit 0 = true := by
    rw [Nat.testBit_div_two_pow, Nat.zero_add]
    exact h1
  rw [Nat.testBit_zero] at h2
  have h3 : x / 2 ^ k % 2 = 1 := by simpa using h2
  refine ⟨x / 2 ^ k / 2, ?_⟩
  have h4 : 2 * (x / 2 ^ k / 2) + 1 = x / 2 ^ k := by omega
  rw [h4]
  have := Nat.div_add_mod x (2 ^ k)
  omega
theorem pred_bit {x k : Nat} (h1 : x.testBit k = true) (h0 : ∀ i, i < k → x.testBit i = false) (i : Nat) : (x - 1).testBit i = if i < k then true else if i = k then false else x.testBit i := by
  obtain ⟨m, rfl⟩ := split_at h1 h0
  have hp : 0 < 2 ^ k := Nat.two_pow_pos k
  have e : 2 ^ k * (2 * m + 1) - 1 = 2 ^ k * (2 * m) + (2 ^ k - 1) := by
    rw [Nat.mul_add, Nat.mul_one]
    omega
  rw [e, Nat.testBit_two_pow_mul_add _ (by omega)]
  by_cases hi : i < k
  · rw [if_pos hi, if_pos hi, Nat.testBit_two_pow_sub_one, decide_eq_true hi]
  · rw [if_neg hi, if_neg hi]
    by_cases hk : i = k
    · subst hk
      rw [if_pos rfl, Nat.sub_self]
      simp [Nat.testBit_zero]
    · rw [if_neg hk]
      have e2 : 2 ^ k * (2 * m + 1) = 2 ^ k * (2 * m + 1) + 0 := rfl
      rw [e2, Nat.testBit_two_pow_mul_add _ hp, if_neg hi]
      obtain ⟨j, hj⟩ : ∃ j, i - k = j + 1 := ⟨i - k - 1, by omega⟩
      rw [hj, Nat.testBit_succ, Nat.testBit_succ]
      congr 1
      omega
theorem neg_and {x k : Nat} (hx : x < 2 ^ 64) (h1 : x.testBit k = true) (h0 : ∀ i, i < k → x.testBit i = false) : x &&& (2 ^ 64 - x) = 2 ^ k := by
  have hpos : 0 < x := by
    rcases Nat.eq_zero_or_pos x with rfl | h
    · simp at h1
    · exact h
  have hk : k < 64 := by
    rcases Nat.lt_or_ge k 64 with h | h
    · exact h
    · have := Nat.testBit_lt_two_pow (Nat.lt_of_lt_of_le hx (Nat.pow_le_pow_right (by omega) h))
      rw [h1] at this
      cases this
  apply Nat.eq_of_testBit_eq
  intro i
  have e : 2 ^ 64 - x = 2 ^ 64 - ((x - 1) + 1) := by omega
  rw [Nat.testBit_and, e, Nat.testBit_two_pow_sub_succ (by omega), pred_bit h1 h0, Nat.testBit_two_pow]
  by_cases hi : i < k
  · rw [h0 i hi, Bool.false_and, decide_eq_false (by omega)]
  · rw [if_neg hi]
    by_cases he : i = k
    · subst he
      rw [h1, if_pos rfl, decide_eq_true hk, decide_eq_true rfl]
      rfl
    · rw [if_neg he, show decide (k = i) = false from decide_eq_false (fun h => he h.symm)]
      cases x.testBit i <;> simp
theorem drop_low {x k : Nat} (h1 : x.testBit k = true) (h0 : ∀ i, i < k → x.testBit i = false) (i : Nat) : (x &&& (x - 1)).testBit i = (x.testBit i && decide (i ≠ k)) := by
  rw [Nat.testBit_and, pred_bit h1 h0]
  by_cases hi : i < k
  · rw [h0 i hi, Bool.false_and, Bool.false_and]
  · rw [if_neg hi]
    by_cases he : i = k
    · subst he
      rw [if_pos rfl, show decide (i ≠ i) = false from decide_eq_false (by omega), Bool.and_false]
    · rw [if_neg he, decide_eq_true he, Bool.and_self, Bool.and_true]
/-- A word that is not 0 has a least bit. -/
theorem least_bit : ∀ {x : Nat}, 0 < x → ∃ k, x.testBit k = true ∧ ∀ i, i < k → x.testBit i = false := by
  intro x
  induction x using Nat.strongRecOn with
  | ind x ih =>
    intro hx
    by_cases h : x % 2 = 1
    · exact ⟨0, by simp [Nat.testBit_zero, h], fun i hi => by omega⟩
    · obtain ⟨k, h1, h2⟩ := ih (x / 2) (by omega) (by omega)
      refine ⟨k + 1, by rw [Nat.testBit_succ]; exact h1, fun i hi => ?_⟩
      cases i with
      | zero => simp [Nat.testBit_zero, h]
      | succ i => rw [Nat.testBit_succ]; exact h2 i (by omega)
theorem bit_lt {x k : Nat} (hx : x < 2 ^ 64) (h1 : x.testBit k = true) : k < 64 := by
  rcases Nat.lt_or_ge k 64 with h | h
  · exact h
  · have := Nat.testBit_lt_two_pow (Nat.lt_of_lt_of_le hx (Nat.pow_le_pow_right (by omega) h))
    rw [h1] at this
    cases this
theorem compl_bit {x : Nat} (hx : x < 2 ^ 64) (i : Nat) : (2 ^ 64 - 1 - x).testBit i = (decide (i < 64) && !x.testBit i) := by
  have e : 2 ^ 64 - 1 - x = 2 ^ 64 - (x + 1) := by omega
  rw [e, Nat.testBit_two_pow_sub_succ hx]
end Go.Proofs.YtdeghpmlhcaedaaDoor
