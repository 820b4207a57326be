/- Buffers: who is left, of all that came (the plain law of BuffersOut). -/
import Derived.Test.YtdeghpmlhcaedaaDoorBp
namespace Go.Proofs.YtdeghpmlhcaedaaDoor
open Go.RowKit
set_option linter.unusedSimpArgs false
set_option linter.unusedVariables false
def itN (l : List UInt64) (k : Nat) : It := ⟨UInt64.ofNat k, rdy (l.getD k 0) 0, 0, false⟩
def sM (l : List UInt64) (M : List (Option Nat)) : List (Option It) := M.map (Option.map (itN l))
def rkN (l : List UInt64) (k : Nat) : Rk := ⟨l.getD k 0, UInt64.ofNat k⟩
theorem ah_trans {a b c : Rk} (h1 : Ahead a b = true) (h2 : Ahead b c = true) : Ahead a c = true := by
  unfold Ahead at *
  by_cases e1 : a.p = b.p <;> by_cases e2 : b.p = c.p
  · rw [if_pos e1] at h1
    rw [if_pos e2] at h2
    rw [if_pos (e1.trans e2)]
    have := of_decide_eq_true h1
    have := of_decide_eq_true h2
    exact decide_eq_true (by omega)
  · rw [if_neg e2] at h2
    rw [if_neg (fun e => e2 (e1.symm.trans e)), e1]
    exact h2
  · rw [if_neg e1] at h1
    rw [if_neg (fun e => e1 (e.trans e2.symm)), ← e2]
    exact h1
  · rw [if_neg e1] at h1
    rw [if_neg e2] at h2
    have h3 := of_decide_eq_true h1
    have h4 := of_decide_eq_true h2
    rw [if_neg (fun e => by rw [e] at h3; omega)]
    exact decide_eq_true (by omega)
theorem ah_asymm {a b : Rk} (h : Ahead a b = true) : Ahead b a = false := by
  unfold Ahead at *
  by_cases e : a.p = b.p
  · rw [if_pos e] at h
    rw [if_pos e.symm]
    have := of_decide_eq_true h
    exact decide_eq_false (by omega)
  · rw [if_neg e] at h
    rw [if_neg (fun e2 => e e2.symm)]
    have := of_decide_eq_true h
    exact decide_eq_false (by omega)
theorem ah_total {l : List UInt64} {j k : Nat} (hj : j < 4096) (hk : k < 4096) (hne : j ≠ k) (h : Ahead (rkN l j) (rkN l k) = false) : Ahead (rkN l k) (rkN l j) = true := by
  unfold Ahead at *
  have hn : ∀ m, m < 4096 → (UInt64.ofNat m).toNat = m := fun m hm => by rw [UInt64.toNat_ofNat']; omega
  by_cases e : (rkN l j).p = (rkN l k).p
  · rw [if_pos e] at h
    rw [if_pos e.symm]
    have := of_decide_eq_false h
    simp only [rkN, hn j hj, hn k hk] at this ⊢
    exact decide_eq_true (by omega)
  · rw [if_neg e] at h
    rw [if_neg (fun e2 => e e2.symm)]
    have h3 := of_decide_eq_false h
    have h4 : (rkN l j).p.toNat ≠ (rkN l k).p.toNat := fun e2 => e (UInt64.toNat_inj.1 e2)
    exact decide_eq_true (by omega)
/-- Who is left behind i that came: M tells who is at which place. -/
structure OM (l : List UInt64) (n i : Nat) (M : List (Option Nat)) : Prop where
  len : M.length = n
  full : ∀ j, j < n → (j < i → ∃ k, M[j]? = some (some k)) ∧ (i ≤ j → M[j]? = some none)
  first : i ≤ n → ∀ j, j < i → M[j]? = some (some j)
  lt : ∀ j k : Nat, M[j]? = some (some k) → k < i
  inj : ∀ j j' k : Nat, M[j]? = some (some k) → M[j']? = some (some k) → j = j'
  up : ∀ j k p : Nat, M[j]? = some (some k) → p < i → (∀ j' : Nat, M[j']? ≠ some (some p)) → Ahead (rkN l k) (rkN l p) = true
section
variable {l : List UInt64} {n i : Nat} {M : List (Option Nat)}
theorem OM.zero : OM l n 0 (List.replicate n none) :=
  ⟨List.length_replicate, fun j hj => ⟨fun h => absurd h (Nat.not_lt_zero _), fun _ => by rw [List.getElem?_replicate, if_pos hj]⟩, fun _ j h => absurd h (Nat.not_lt_zero _),
    fun j k h => (by rw [List.getElem?_replicate] at h; split at h <;> cases h), fun j j' k h => (by rw [List.getElem?_replicate] at h; split at h <;> cases h), fun j k p h => (by rw [List.getElem?_replicate] at h; split at h <;> cases h)⟩
theorem OM.none_at (H : OM l n i M) (hi : i < n) : ∀ j k : Nat, (M.set i (some i))[j]? = some (some k) → (j = i ∧ k = i) ∨ (j ≠ i ∧ M[j]? = some (some k)) := by
  intro j k h
  by_cases e : j = i
  · subst e
    rw [List.getElem?_set_self (by rw [H.len]; exact hi)] at h
    cases h
    exact .inl ⟨rfl, rfl⟩
  · rw [List.getElem?_set_ne (fun e2 => e e2.symm)] at h
    exact .inr ⟨e, h⟩
theorem OM.room (H : OM l n i M) (hi : i < n) : OM l n (i + 1) (M.set i (some i)) := by
  have hs := H.none_at hi
  refine ⟨by rw [List.length_set]; exact H.len, fun j hj => ⟨fun h => ?_, fun h => ?_⟩, fun _ j hj => ?_, fun j k h => ?_, fun j j' k h h' => ?_, fun j k p h hp hno => ?_⟩
  · by_cases e : j = i
    · subst e
      exact ⟨j, List.getElem?_set_self (by rw [H.len]; exact hi)⟩
    · rw [List.getElem?_set_ne (fun e2 => e e2.symm)]
      exact (H.full j hj).1 (by omega)
  · rw [List.getElem?_set_ne (by omega)]
    exact (H.full j hj).2 (by omega)
  · by_cases e : j = i
    · subst e
      exact List.getElem?_set_self (by rw [H.len]; exact hi)
    · rw [List.getElem?_set_ne (fun e2 => e e2.symm)]
      exact H.first (by omega) j (by omega)
  · rcases hs j k h with ⟨_, rfl⟩ | ⟨_, h⟩
    · omega
    · have := H.lt j k h; omega
  · rcases hs j k h with ⟨rfl, rfl⟩ | ⟨h1, h2⟩
    · rcases hs j' k h' with ⟨rfl, _⟩ | ⟨h3, h4⟩
      · rfl
      · have := H.lt j' k h4; omega
    · rcases hs j' k h' with ⟨rfl, rfl⟩ | ⟨h3, h4⟩
      · have := H.lt j _ h2; omega
      · exact H.inj j j' k h2 h4
  · exfalso
    by_cases e : p = i
    · subst e
      exact hno p (List.getElem?_set_self (by rw [H.len]; exact hi))
    · exact hno p (by rw [List.getElem?_set_ne (fun e2 => e e2.symm)]; exact H.first (by omega) p (by omega))
/-- Who is last of those that are left. -/
def Last (l : List UInt64) (M : List (Option Nat)) (j0 k0 : Nat) : Prop := M[j0]? = some (some k0) ∧ ∀ j k : Nat, M[j]? = some (some k) → k = k0 ∨ Ahead (rkN l k) (rkN l k0) = true
theorem OM.keep (H : OM l n i M) (hn : n ≤ i) (hi : i < 4096) {j0 k0 : Nat} (hl : Last l M j0 k0) (ha : Ahead (rkN l i) (rkN l k0) = false) : OM l n (i + 1) M := by
  have hk0 := H.lt j0 k0 hl.1
  have hki : Ahead (rkN l k0) (rkN l i) = true := ah_total hi (by omega) (by omega) ha
  refine ⟨H.len, fun j hj => ⟨fun _ => (H.full j hj).1 (by omega), fun h => by omega⟩, fun h => by omega, fun j k h => by have := H.lt j k h; omega, H.inj, fun j k p h hp hno => ?_⟩
  by_cases e : p = i
  · subst e
    rcases hl.2 j k h with rfl | h2
    · exact hki
    · exact ah_trans h2 hki
  · exact H.up j k p h (by omega) hno
theorem OM.swap (H : OM l n i M) (hn : n ≤ i) (hi : i < 4096) {j0 k0 : Nat} (hl : Last l M j0 k0) (ha : Ahead (rkN l i) (rkN l k0) = true) : OM l n (i + 1) (M.set j0 (some i)) := by
  have hj0 := (List.getElem?_eq_some_iff.1 hl.1).1
  have hs : ∀ j k : Nat, (M.set j0 (some i))[j]? = some (some k) → (j = j0 ∧ k = i) ∨ (j ≠ j0 ∧ M[j]? = some (some k)) := by
    intro j k h
    by_cases e : j = j0
    · subst e
      rw [List.getElem?_set_self hj0] at h
      cases h
      exact .inl ⟨rfl, rfl⟩
    · rw [List.getElem?_set_ne (fun e2 => e e2.symm)] at h
      exact .inr ⟨e, h⟩
  have hk0 := H.lt j0 k0 hl.1
  refine ⟨by rw [List.length_set]; exact H.len, fun j hj => ⟨fun h => ?_, fun h => by omega⟩, fun h => by omega, fun j k h => ?_, fun j j' k h h' => ?_, fun j k p h hp hno => ?_⟩
  · by_cases e : j = j0
    · subst e
      exact ⟨i, List.getElem?_set_self hj0⟩
    · rw [List.getElem?_set_ne (fun e2 => e e2.symm)]
      exact (H.full j hj).1 (by omega)
  · rcases hs j k h with ⟨_, rfl⟩ | ⟨_, h⟩
    · omega
    · have := H.lt j k h; omega
  · rcases hs j k h with ⟨rfl, rfl⟩ | ⟨h1, h2⟩
    · rcases hs j' k h' with ⟨rfl, _⟩ | ⟨h3, h4⟩
      · rfl
      · have := H.lt j' k h4; omega
    · rcases hs j' k h' with ⟨rfl, rfl⟩ | ⟨h3, h4⟩
      · have := H.lt j _ h2; omega
      · exact H.inj j j' k h2 h4
  · have hpi : p ≠ i := fun e => by
      subst e
      exact hno j0 (List.getElem?_set_self hj0)
    have hno2 : ∀ j' : Nat, j' ≠ j0 → M[j']? ≠ some (some p) := fun j' hj' h2 => hno j' (by rw [List.getElem?_set_ne (fun e2 => hj' e2.symm)]; exact h2)
    have hk0p : Ahead (rkN l k0) (rkN l p) = true ∨ p = k0 := by
      by_cases e : p = k0
      · exact .inr e
      · refine .inl (H.up j0 k0 p hl.1 (by omega) (fun j' h2 => ?_))
        by_cases e2 : j' = j0
        · subst e2
          rw [hl.1] at h2
          cases h2
          exact e rfl
        · exact hno2 j' e2 h2
    have step : ∀ k', Ahead (rkN l k') (rkN l k0) = true → Ahead (rkN l k') (rkN l p) = true := fun k' h2 => by
      rcases hk0p with h3 | h3
      · exact ah_trans h2 h3
      · rw [h3]; exact h2
    rcases hs j k h with ⟨_, rfl⟩ | ⟨h1, h2⟩
    · exact step _ ha
    · rcases hl.2 j k h2 with rfl | h3
      · exact absurd (H.inj j j0 k h2 hl.1) h1
      · exact step _ h3
end
end Go.Proofs.YtdeghpmlhcaedaaDoor
