/- The plain law of AccountsLast: what was put last of each key. -/
import Derived.Test.YtknmiojegnbakaaSums
import Derived.Test.YtknmiojegnbakaaSortC
namespace Go.Proofs.Ytknmiojegnbakaa
def lastM (l : List AAct) : List (Key × Acct) := l.foldl (fun m x => put x.k x.a m) []
theorem lastM_snoc (l : List AAct) (i : Nat) (x : AAct) (h : l[i]? = some x) : put x.k x.a (lastM (l.take i)) = lastM (l.take (i + 1)) := by
  rw [List.take_add_one, h, lastM, lastM, List.foldl_append]
  rfl
theorem foldl_nodup : ∀ (l : List AAct) (m : List (Key × Acct)), (m.map Prod.fst).Nodup → ((l.foldl (fun m x => put x.k x.a m) m).map Prod.fst).Nodup
  | [], _, h => h
  | x :: l, _, h => foldl_nodup l _ (nodup_put h x.k x.a)
theorem lastM_nodup (l : List AAct) : ((lastM l).map Prod.fst).Nodup := foldl_nodup l [] (by simp)
theorem rel_step : ∀ (l : List AAct) (m n : List (Key × Acct)), (m.map Prod.fst).Nodup → (∀ k, lkp k m = (lkp k n).filter (fun a => decide (a ≠ acct0))) →
    ∀ k, lkp k (l.foldl (fun m x => putA m x.k x.a) m) = (lkp k (l.foldl (fun m x => put x.k x.a m) n)).filter (fun a => decide (a ≠ acct0))
  | [], _, _, _, h => h
  | x :: l, m, n, hn, h => by
    refine rel_step l _ _ (nodup_putA hn _ _) fun k => ?_
    show lkp k (putA m x.k x.a) = (lkp k (put x.k x.a n)).filter _
    unfold putA
    rw [lkp_put]
    by_cases ha : x.a = acct0
    · rw [if_pos ha, lkp_del hn]
      by_cases hk : k = x.k
      · simp [Option.filter, hk, ha]
      · rw [if_neg hk, if_neg hk]
        exact h k
    · rw [if_neg ha, lkp_put]
      by_cases hk : k = x.k
      · simp [Option.filter, hk, ha]
      · rw [if_neg hk, if_neg hk]
        exact h k
theorem rel_last (l : List AAct) (k : Key) : lkp k (madeM l) = (lkp k (lastM l)).filter (fun a => decide (a ≠ acct0)) := rel_step l [] [] (by simp) (fun _ => rfl) k
theorem last_get (l : List AAct) {k : Key} {a : Acct} (h : (k, a) ∈ lastM l) : getA (madeM l) k = a := by
  unfold getA
  rw [rel_last, lkp_of_mem (lastM_nodup l) h]
  by_cases ha : a = acct0 <;> simp [Option.filter, ha]
theorem nodup_of_keys {m : List (Key × Acct)} (h : (m.map Prod.fst).Nodup) : m.Nodup := List.Pairwise.of_map Prod.fst (fun a b hab e => hab (by rw [e])) h
theorem made_mem (l : List AAct) (p : Key × Acct) : p ∈ madeM l ↔ p ∈ (lastM l).filter (fun p => decide (p.2 ≠ acct0)) := by
  obtain ⟨k, a⟩ := p
  rw [List.mem_filter]
  constructor
  · intro h
    have h1 := lkp_of_mem (madeM_nodup l) h
    rw [rel_last] at h1
    cases hq : lkp k (lastM l) with
    | none => rw [hq] at h1; cases h1
    | some b =>
      rw [hq] at h1
      simp only [Option.filter_some] at h1
      split at h1
      · rename_i hb
        cases h1
        exact ⟨lkp_mem hq, hb⟩
      · cases h1
  · rintro ⟨h1, h2⟩
    have h3 := lkp_of_mem (lastM_nodup l) h1
    have h4 : lkp k (madeM l) = some a := by
      rw [rel_last, h3]
      simp only [Option.filter_some]
      rw [if_pos h2]
    exact lkp_mem h4
theorem last_count (l : List AAct) : ((lastM l).filter (fun p => decide (p.2 ≠ acct0))).length = (madeM l).length := by
  refine (List.Perm.length_eq ?_).symm
  rw [List.perm_ext_iff_of_nodup (nodup_of_keys (madeM_nodup l)) ((nodup_of_keys (lastM_nodup l)).filter _)]
  exact made_mem l
theorem made_notzero (l : List AAct) {p : Key × Acct} (h : p ∈ madeM l) : p.2 ≠ acct0 := by
  rw [made_mem, List.mem_filter] at h
  simpa using h.2
theorem made_last (l : List AAct) {p : Key × Acct} (h : p ∈ madeM l) : lkp p.1 (lastM l) = some p.2 := by
  rw [made_mem, List.mem_filter] at h
  exact lkp_of_mem (lastM_nodup l) h.1
theorem holds_nodup {l : List Hold} {m : List (Key × Acct)} (hp : l.Perm (m.map toH)) (hn : (m.map Prod.fst).Nodup) : (l.map Hold.k).Nodup := by
  have : (l.map Hold.k).Perm ((m.map toH).map Hold.k) := hp.map _
  rw [this.nodup_iff, List.map_map]
  exact hn
/-- By rising keys, each once: strictly. -/
theorem rising_lt {l : List Hold} (hr : Rising l) (hn : (l.map Hold.k).Nodup) {i : Nat} {x y : Hold} (hx : l[i]? = some x) (hy : l[i + 1]? = some y) : klt x.k y.k = true := by
  rcases klt_total x.k y.k with h | h | h
  · exact h
  · exfalso
    have h1 : (l.map Hold.k)[i]? = some x.k := by simp [hx]
    have h2 : (l.map Hold.k)[i + 1]? = some y.k := by simp [hy]
    obtain ⟨a1, b1⟩ := List.getElem?_eq_some_iff.1 h1
    obtain ⟨a2, b2⟩ := List.getElem?_eq_some_iff.1 h2
    exact List.pairwise_iff_getElem.1 hn i (i + 1) a1 a2 (by omega) (by rw [b1, b2, h])
  · rw [hr i (i + 1) x y (by omega) hx hy] at h
    cases h
end Go.Proofs.Ytknmiojegnbakaa
