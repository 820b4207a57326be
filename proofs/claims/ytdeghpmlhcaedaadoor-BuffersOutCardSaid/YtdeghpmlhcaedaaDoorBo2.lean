/- Buffers: who is left, as the buffer keeps it. -/
import Derived.Test.YtdeghpmlhcaedaaDoorBo
namespace Go.Proofs.YtdeghpmlhcaedaaDoor
open Go.RowKit
set_option linter.unusedSimpArgs false
set_option linter.unusedVariables false
section
variable {l : List UInt64} {n i : Nat} {M : List (Option Nat)}
theorem sM_at {j k : Nat} (h : M[j]? = some (some k)) : (sM l M)[j]? = some (some (itN l k)) := by
  unfold sM
  rw [List.getElem?_map, h]
  rfl
theorem sM_none {j : Nat} (h : M[j]? = some none) : (sM l M)[j]? = some none := by
  unfold sM
  rw [List.getElem?_map, h]
  rfl
theorem sM_some {j : Nat} {y : It} (h : (sM l M)[j]? = some (some y)) : ∃ k, M[j]? = some (some k) ∧ y = itN l k := by
  unfold sM at h
  rw [List.getElem?_map] at h
  cases hM : M[j]? with
  | none => rw [hM] at h; cases h
  | some o =>
    rw [hM] at h
    cases o with
    | none => cases h
    | some k => exact ⟨k, rfl, by simpa using h.symm⟩
theorem sM_len : (sM l M).length = M.length := by simp [sM]
theorem sM_set {j k : Nat} : (sM l M).set j (some (itN l k)) = sM l (M.set j (some k)) := by
  unfold sM
  rw [List.map_set]
  rfl
theorem sM_zero : sM l (List.replicate n none) = List.replicate n none := by
  unfold sM
  rw [List.map_replicate]
  rfl
theorem OM.free (H : OM l n i M) (hi : i < n) : FreeS (sM l M) i :=
  ⟨sM_none ((H.full i hi).2 (Nat.le_refl _)), fun j hj => ⟨_, sM_at (H.first (by omega) j hj)⟩⟩
theorem OM.count (H : OM l n i M) : (sM l M).countP Option.isSome = min i n := by
  rw [← count_lt i n]
  have : (sM l M).map Option.isSome = (List.range n).map (fun j => decide (j < i)) := by
    apply List.ext_getElem?
    intro j
    by_cases hj : j < n
    · rw [List.getElem?_map, List.getElem?_map, List.getElem?_range hj]
      by_cases hi : j < i
      · obtain ⟨k, hk⟩ := (H.full j hj).1 hi
        rw [sM_at hk]
        simp [hi]
      · rw [sM_none ((H.full j hj).2 (by omega))]
        simp [hi]
    · rw [List.getElem?_eq_none (by rw [List.length_map, sM_len, H.len]; omega), List.getElem?_eq_none (by simp; omega)]
  have h1 : (sM l M).countP Option.isSome = ((sM l M).map Option.isSome).countP id := by rw [List.countP_map]; rfl
  rw [h1, this, List.countP_map]
  rfl
theorem sM_node {z : Nd} (h : z ∈ wtg 0 (sM l M)) : ∃ j k : Nat, M[j]? = some (some k) ∧ z = ⟨rkN l k, idn j⟩ := by
  obtain ⟨j, y, hy, _, rfl⟩ := wtg_mem h
  obtain ⟨k, hk, rfl⟩ := sM_some hy
  exact ⟨j, k, hk, by rw [Nat.zero_add]; rfl⟩
theorem node_sM {j k : Nat} (h : M[j]? = some (some k)) : (⟨rkN l k, idn j⟩ : Nd) ∈ wtg 0 (sM l M) := by
  have := mem_wtg (k := 0) (sM_at (l := l) h) rfl
  rw [Nat.zero_add] at this
  exact this
theorem sM_sorted (hM : M.length ≤ 4096) : ∃ D, D.Perm (wtg 0 (sM l M)) ∧ Srt D := by
  have h := wtg_ids (S := sM l M) (k := 0) (by rw [sM_len]; omega)
  refine srt_exists _ ?_
  unfold List.Nodup at h ⊢
  rw [List.pairwise_map] at h
  exact h.imp (fun hne e => hne (by rw [e]))
theorem rk_ne {j k : Nat} (hj : j < 4096) (hk : k < 4096) (h : rkN l j = rkN l k) : j = k := by
  have h2 := congrArg (fun r => r.n.toNat) h
  simp only [rkN, UInt64.toNat_ofNat'] at h2
  omega
theorem OM.last (H : OM l n i M) (hn : n ≤ i) (h0 : 0 < n) (hi : i ≤ 4096) {D : List Nd} (hD : D.Perm (wtg 0 (sM l M))) (hS : Srt D) : ∃ j0 k0 : Nat, D.getLast? = some ⟨rkN l k0, idn j0⟩ ∧ Last l M j0 k0 := by
  obtain ⟨k, hk⟩ := (H.full 0 h0).1 (by omega)
  have hm := hD.mem_iff.2 (node_sM (l := l) hk)
  have hne : D ≠ [] := fun e => by rw [e] at hm; cases hm
  obtain ⟨z, hz⟩ : ∃ z, D.getLast? = some z := ⟨D.getLast hne, List.getLast?_eq_some_getLast hne⟩
  obtain ⟨r, hr⟩ := List.getLast?_eq_some_iff.1 hz
  obtain ⟨j0, k0, hk0, hz2⟩ := sM_node (hD.mem_iff.1 (show z ∈ D by rw [hr]; exact List.mem_append_right _ (List.mem_singleton_self z)))
  subst hz2
  refine ⟨j0, k0, hz, hk0, fun j k hjk => ?_⟩
  have hmem := hD.mem_iff.2 (node_sM (l := l) hjk)
  rw [hr] at hmem
  rcases List.mem_append.1 hmem with hmem | hmem
  · have hlt : nlt ⟨rkN l k, idn j⟩ ⟨rkN l k0, idn j0⟩ = true := by
      unfold Srt at hS
      rw [hr, List.pairwise_append] at hS
      exact hS.2.2 _ hmem _ (by simp)
    by_cases e : k = k0
    · exact .inl e
    · refine .inr ?_
      unfold nlt at hlt
      rw [if_neg (fun e2 => e (rk_ne (by have := H.lt j k hjk; omega) (by have := H.lt j0 k0 hk0; omega) e2))] at hlt
      exact hlt
  · rw [List.mem_singleton] at hmem
    exact .inl (rk_ne (by have := H.lt j k hjk; omega) (by have := H.lt j0 k0 hk0; omega) (congrArg Nd.r hmem))
end
end Go.Proofs.YtdeghpmlhcaedaaDoor
