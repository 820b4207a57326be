/- Buffers: the numbers of those that wait, counted. -/
import Derived.Test.YtdeghpmlhcaedaaDoorBo3
namespace Go.Proofs.YtdeghpmlhcaedaaDoor
open Go.RowKit
set_option linter.unusedSimpArgs false
set_option linter.unusedVariables false
theorem ofN_inj {a b : Nat} (ha : a < 4096) (hb : b < 4096) (h : UInt64.ofNat a = UInt64.ofNat b) : a = b := by
  have h1 := congrArg UInt64.toNat h
  rw [UInt64.toNat_ofNat', UInt64.toNat_ofNat'] at h1
  omega
section
variable {l : List UInt64} {n i : Nat} {M : List (Option Nat)} {D : List Nd}
theorem num_notin (H : OM l n i M) (hi : i ≤ 4096) (hD : D.Perm (wtg 0 (sM l M))) (hS : Srt D) {m j k : Nat} (h : D[m]? = some ⟨rkN l k, idn j⟩) (hjk : M[j]? = some (some k)) : UInt64.ofNat k ∉ (D.take m).map (fun z => z.r.n) := fun hin => by
  obtain ⟨z, hz, hzk⟩ := List.mem_map.1 hin
  obtain ⟨p, hp⟩ := List.mem_iff_getElem?.1 hz
  rw [List.getElem?_take] at hp
  by_cases hpm : p < m
  · rw [if_pos hpm] at hp
    obtain ⟨j', k', hjk', rfl⟩ := sM_node (hD.mem_iff.1 (List.mem_of_getElem? hp))
    have hk := H.lt _ _ hjk
    have hk' := H.lt _ _ hjk'
    have hkk : k' = k := ofN_inj (by omega) (by omega) hzk
    subst hkk
    obtain rfl := H.inj _ _ _ hjk' hjk
    obtain ⟨hpl, hpe⟩ := List.getElem?_eq_some_iff.1 hp
    obtain ⟨hml, hme⟩ := List.getElem?_eq_some_iff.1 h
    have h2 := (List.pairwise_iff_getElem.1 hS) p m hpl hml hpm
    rw [hpe, hme, nlt_irrefl] at h2
    cases h2
  · rw [if_neg hpm] at hp
    cases hp
theorem num_step {m k k' : Nat} (hk : k < 4096) (hk' : k' < 4096) {z : Nd} (h : D[m]? = some z) (hz : z.r.n = UInt64.ofNat k) :
    (if UInt64.ofNat k' ∈ (D.take (m + 1)).map (fun z => z.r.n) then (1 : Int) else 0) = if k' = k then 1 else if UInt64.ofNat k' ∈ (D.take m).map (fun z => z.r.n) then 1 else 0 := by
  rw [List.take_add_one, h, List.map_append]
  by_cases e : k' = k
  · subst e
    rw [if_pos rfl, if_pos (List.mem_append_right _ (by simp [hz]))]
  · rw [if_neg e]
    have h1 : UInt64.ofNat k' ∉ (some z).toList.map (fun z => z.r.n) := fun hin => by
      simp only [Option.toList_some, List.map_cons, List.map_nil, List.mem_singleton] at hin
      exact e (ofN_inj hk' hk (hin.trans hz))
    have h2 : (UInt64.ofNat k' ∈ (D.take m).map (fun z => z.r.n) ++ (some z).toList.map (fun z => z.r.n)) ↔ UInt64.ofNat k' ∈ (D.take m).map (fun z => z.r.n) :=
      ⟨fun hh => (List.mem_append.1 hh).elim id (fun h3 => absurd h3 h1), fun hh => List.mem_append_left _ hh⟩
    by_cases h3 : UInt64.ofNat k' ∈ (D.take m).map (fun z => z.r.n)
    · rw [if_pos h3, if_pos (h2.2 h3)]
    · rw [if_neg h3, if_neg (fun h4 => h3 (h2.1 h4))]
theorem num_kept (H : OM l n i M) (hi : i ≤ 4096) (hD : D.Perm (wtg 0 (sM l M))) {k : Nat} (hk : k < i) : UInt64.ofNat k ∈ D.map (fun z => z.r.n) ↔ ∃ j : Nat, M[j]? = some (some k) := by
  constructor
  · intro h
    obtain ⟨z, hz, hzk⟩ := List.mem_map.1 h
    obtain ⟨j', k', hjk', rfl⟩ := sM_node (hD.mem_iff.1 hz)
    have hk' := H.lt _ _ hjk'
    have hkk : k' = k := ofN_inj (by omega) (by omega) hzk
    exact ⟨j', hkk ▸ hjk'⟩
  · rintro ⟨j, hj⟩
    exact List.mem_map.2 ⟨_, hD.mem_iff.2 (node_sM hj), rfl⟩
/-- What the count at a number says. -/
theorem num_both (H : OM l n i M) (hi : i ≤ 4096) (hn : 0 < n) (hD : D.Perm (wtg 0 (sM l M))) {k : Nat} (hk : k < i) {v : Int} (hv : v = if UInt64.ofNat k ∈ D.map (fun z => z.r.n) then 1 else 0) :
    (v = 1 ∧ (ahN l i k).length < n) ∨ (v = 0 ∧ n ≤ (ahN l i k).length) := by
  by_cases h : UInt64.ofNat k ∈ D.map (fun z => z.r.n)
  · rw [if_pos h] at hv
    obtain ⟨j, hj⟩ := (num_kept H hi hD hk).1 h
    exact .inl ⟨hv, H.in_lt hi hn hj⟩
  · rw [if_neg h] at hv
    exact .inr ⟨hv, H.out_ge hk (fun j hj => h ((num_kept H hi hD hk).2 ⟨j, hj⟩))⟩
end
theorem ah_step {l : List UInt64} {k i : Nat} : (ahN l (k + 1) i).length = (ahN l k i).length + if Ahead (rkN l k) (rkN l i) then 1 else 0 := by
  unfold ahN
  rw [List.range_succ, List.filter_append, List.length_append]
  cases h : Ahead (rkN l k) (rkN l i) <;> simp [h]
theorem ah_le {l : List UInt64} {k i : Nat} : (ahN l k i).length ≤ k := by
  have := List.length_filter_le (fun p => Ahead (rkN l p) (rkN l i)) (List.range k)
  rw [List.length_range] at this
  exact this
end Go.Proofs.YtdeghpmlhcaedaaDoor
