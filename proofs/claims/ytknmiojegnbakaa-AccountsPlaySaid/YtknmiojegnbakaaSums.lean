/- The plain law of sums over an association list. -/
import Derived.Test.YtknmiojegnbakaaMade
namespace Go.Proofs.Ytknmiojegnbakaa
theorem sumC_cons (p : Key × Acct) (m : List (Key × Acct)) : sumC (p :: m) = p.2.c.toNat + sumC m := by simp [sumC]
theorem sum_put (k : Key) (a : Acct) : ∀ m : List (Key × Acct), sumC (put k a m) + (getA m k).c.toNat = sumC m + a.c.toNat
  | [] => by simp [put, sumC, getA, lkp, acct0]
  | p :: m => by
    have ih := sum_put k a m
    unfold put
    by_cases h : p.1 = k
    · rw [if_pos h, sumC_cons, sumC_cons]
      unfold getA
      rw [lkp, if_pos h]
      simp only [Option.getD_some]
      omega
    · rw [if_neg h, sumC_cons, sumC_cons]
      unfold getA at ih ⊢
      rw [lkp, if_neg h]
      omega
theorem sum_del (k : Key) : ∀ m : List (Key × Acct), sumC (del k m) + (getA m k).c.toNat = sumC m
  | [] => by simp [del, sumC, getA, lkp, acct0]
  | p :: m => by
    have ih := sum_del k m
    unfold del
    by_cases h : p.1 = k
    · rw [if_pos h, sumC_cons]
      unfold getA
      rw [lkp, if_pos h]
      simp only [Option.getD_some]
      omega
    · rw [if_neg h, sumC_cons, sumC_cons]
      unfold getA at ih ⊢
      rw [lkp, if_neg h]
      omega
theorem sum_putA (m : List (Key × Acct)) (k : Key) (a : Acct) : sumC (putA m k a) + (getA m k).c.toNat = sumC m + a.c.toNat := by
  unfold putA
  by_cases h : a = acct0
  · subst h
    rw [if_pos rfl, sum_del]
    simp [acct0]
  · rw [if_neg h, sum_put]
theorem put_len (k : Key) (a : Acct) : ∀ m : List (Key × Acct), (put k a m).length ≤ m.length + 1
  | [] => by simp [put]
  | p :: m => by
    have ih := put_len k a m
    unfold put
    by_cases h : p.1 = k
    · rw [if_pos h]; simp
    · rw [if_neg h]; simpa using ih
theorem del_len (k : Key) : ∀ m : List (Key × Acct), (del k m).length ≤ m.length
  | [] => by simp [del]
  | p :: m => by
    have ih := del_len k m
    unfold del
    by_cases h : p.1 = k
    · rw [if_pos h]; simp
    · rw [if_neg h]; simpa using ih
theorem putA_len (m : List (Key × Acct)) (k : Key) (a : Acct) : (putA m k a).length ≤ m.length + 1 := by
  unfold putA
  split
  · have := del_len k m
    omega
  · exact put_len k a m
theorem madeM_len (l : List AAct) : (madeM l).length ≤ l.length := by
  have h : ∀ (l : List AAct) (m : List (Key × Acct)), (l.foldl (fun m x => putA m x.k x.a) m).length ≤ m.length + l.length := fun l => by
    induction l with
    | nil => intro m; simp
    | cons x l ih =>
      intro m
      have h1 := ih (putA m x.k x.a)
      have h2 := putA_len m x.k x.a
      simp only [List.foldl_cons, List.length_cons]
      omega
  simpa [madeM] using h l []
theorem getA_putA_ne (m : List (Key × Acct)) (hn : (m.map Prod.fst).Nodup) {k j : Key} (h : j ≠ k) (a : Acct) : getA (putA m k a) j = getA m j := by
  unfold putA getA
  split
  · rw [lkp_del hn, if_neg h]
  · rw [lkp_put_ne h]
theorem getA_putA (m : List (Key × Acct)) (hn : (m.map Prod.fst).Nodup) (k : Key) (a : Acct) : getA (putA m k a) k = a := by
  unfold putA getA
  by_cases h : a = acct0
  · rw [if_pos h, lkp_del hn, if_pos rfl, h]
    rfl
  · rw [if_neg h, lkp_put_same]
    rfl
theorem nodup_putA {m : List (Key × Acct)} (hn : (m.map Prod.fst).Nodup) (k : Key) (a : Acct) : ((putA m k a).map Prod.fst).Nodup := by
  unfold putA
  split
  · exact nodup_del hn k
  · exact nodup_put hn k a
theorem madeM_nodup (l : List AAct) : ((madeM l).map Prod.fst).Nodup := by
  have h : ∀ (l : List AAct) (m : List (Key × Acct)), (m.map Prod.fst).Nodup → ((l.foldl (fun m x => putA m x.k x.a) m).map Prod.fst).Nodup := fun l => by
    induction l with
    | nil => intro m h; simpa using h
    | cons x l ih => intro m h; exact ih _ (nodup_putA h _ _)
  exact h l [] (by simp)
/-- Coins that move: the sum stays; coins more: the sum grows. -/
theorem coins_law (m : List (Key × Acct)) (hn : (m.map Prod.fst).Nodup) {k0 k1 : Key} (h01 : k0 ≠ k1) (n : Nat) (a' b' a'' : Acct)
    (ha : a'.c.toNat = (getA m k0).c.toNat - min n (min (getA m k0).c.toNat (18446744073709551615 - (getA m k1).c.toNat)))
    (hb : b'.c.toNat = (getA m k1).c.toNat + min n (min (getA m k0).c.toNat (18446744073709551615 - (getA m k1).c.toNat)))
    (hc : a''.c.toNat = a'.c.toNat + min n (18446744073709551615 - a'.c.toNat)) :
    sumC (putA (putA m k0 a') k1 b') = sumC m ∧ sumC (putA (putA (putA m k0 a') k1 b') k0 a'') = sumC m + min n (18446744073709551615 - a'.c.toNat) := by
  have h1 := sum_putA m k0 a'
  have h2 := sum_putA (putA m k0 a') k1 b'
  rw [getA_putA_ne m hn (Ne.symm h01)] at h2
  have h3 := sum_putA (putA (putA m k0 a') k1 b') k0 a''
  rw [getA_putA_ne _ (nodup_putA hn _ _) h01, getA_putA m hn] at h3
  have e : sumC (putA (putA m k0 a') k1 b') = sumC m := by omega
  exact ⟨e, by omega⟩
end Go.Proofs.Ytknmiojegnbakaa
