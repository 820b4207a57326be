/- Buffers: who is left is who has fewer than n ahead. -/
import Derived.Test.YtdeghpmlhcaedaaDoorBo2
namespace Go.Proofs.YtdeghpmlhcaedaaDoor
open Go.RowKit
set_option linter.unusedSimpArgs false
set_option linter.unusedVariables false
theorem nodup_le : ∀ {A B : List Nat}, A.Nodup → (∀ x ∈ A, x ∈ B) → A.length ≤ B.length
  | [], B, _, _ => Nat.zero_le _
  | a :: A, B, hA, h => by
    have ha := h a (List.mem_cons_self ..)
    have hA2 := List.nodup_cons.1 hA
    have h1 := nodup_le (A := A) (B := B.erase a) hA2.2 (fun x hx => (List.mem_erase_of_ne (fun e => hA2.1 (by rw [← e]; exact hx))).2 (h x (List.mem_cons_of_mem _ hx)))
    rw [List.length_erase_of_mem ha] at h1
    have h2 := List.length_pos_of_mem ha
    rw [List.length_cons]
    omega
section
variable {l : List UInt64} {n i : Nat} {M : List (Option Nat)}
/-- The numbers that are left. -/
def kept (M : List (Option Nat)) : List Nat := M.filterMap id
theorem mem_kept {k : Nat} : k ∈ kept M ↔ ∃ j : Nat, M[j]? = some (some k) := by
  unfold kept
  rw [List.mem_filterMap]
  constructor
  · rintro ⟨o, ho, rfl⟩
    obtain ⟨j, hj⟩ := List.mem_iff_getElem?.1 ho
    exact ⟨j, hj⟩
  · rintro ⟨j, hj⟩
    exact ⟨_, List.mem_of_getElem? hj, rfl⟩
theorem kept_nodup : ∀ {M : List (Option Nat)}, (∀ j j' k : Nat, M[j]? = some (some k) → M[j']? = some (some k) → j = j') → (kept M).Nodup
  | [], _ => List.nodup_nil
  | none :: M, h => by
    show (kept M).Nodup
    exact kept_nodup (fun j j' k h1 h2 => by have := h (j + 1) (j' + 1) k (by simpa using h1) (by simpa using h2); omega)
  | some k :: M, h => by
    show (k :: kept M).Nodup
    refine List.nodup_cons.2 ⟨fun hk => ?_, kept_nodup (fun j j' k h1 h2 => by have := h (j + 1) (j' + 1) k (by simpa using h1) (by simpa using h2); omega)⟩
    obtain ⟨j, hj⟩ := mem_kept.1 hk
    have := h 0 (j + 1) k rfl (by simpa using hj)
    omega
theorem kept_len (M : List (Option Nat)) : (kept M).length = M.countP Option.isSome := by
  unfold kept
  induction M with
  | nil => rfl
  | cons o M ih => cases o <;> simp [ih]
def ahN (l : List UInt64) (i k : Nat) : List Nat := (List.range i).filter fun p => Ahead (rkN l p) (rkN l k)
theorem OM.in_lt (H : OM l n i M) (hi : i ≤ 4096) (hn : 0 < n) {j k : Nat} (h : M[j]? = some (some k)) : (ahN l i k).length < n := by
  have hsub : ∀ x ∈ k :: ahN l i k, x ∈ kept M := fun x hx => by
    rcases List.mem_cons.1 hx with rfl | hx
    · exact mem_kept.2 ⟨j, h⟩
    · obtain ⟨h1, h2⟩ := List.mem_filter.1 hx
      have hxi := List.mem_range.1 h1
      refine Classical.byContradiction fun hno => ?_
      have h3 := H.up j k x h hxi (fun j' hj' => hno (mem_kept.2 ⟨j', hj'⟩))
      rw [ah_asymm h3] at h2
      cases h2
  have hself : k ∉ ahN l i k := fun hk => by
    have h2 := (List.mem_filter.1 hk).2
    have h3 := ah_asymm h2
    rw [h2] at h3
    cases h3
  have hnd : (k :: ahN l i k).Nodup := List.nodup_cons.2 ⟨hself, List.Nodup.sublist List.filter_sublist List.nodup_range⟩
  have h1 := nodup_le hnd hsub
  rw [List.length_cons, kept_len] at h1
  have h2 := List.countP_le_length (p := Option.isSome) (l := M)
  rw [H.len] at h2
  omega
theorem OM.out_ge (H : OM l n i M) {k : Nat} (hk : k < i) (h : ∀ j : Nat, M[j]? ≠ some (some k)) : n ≤ (ahN l i k).length := by
  have hni : n ≤ i := Classical.byContradiction fun hc => h k (H.first (by omega) k hk)
  have hsub : ∀ x ∈ kept M, x ∈ ahN l i k := fun x hx => by
    obtain ⟨j, hj⟩ := mem_kept.1 hx
    exact List.mem_filter.2 ⟨List.mem_range.2 (H.lt j x hj), H.up j x k hj hk h⟩
  have h1 := nodup_le (kept_nodup H.inj) hsub
  have h2 : (kept M).length = n := by
    rw [kept_len, ← H.len]
    refine List.countP_eq_length.2 (fun o ho => ?_)
    obtain ⟨j, hj⟩ := List.mem_iff_getElem?.1 ho
    have hjl := (List.getElem?_eq_some_iff.1 hj).1
    rw [H.len] at hjl
    obtain ⟨k', hk'⟩ := (H.full j hjl).1 (by omega)
    rw [hk'] at hj
    cases hj
    rfl
  omega
end
end Go.Proofs.YtdeghpmlhcaedaaDoor
