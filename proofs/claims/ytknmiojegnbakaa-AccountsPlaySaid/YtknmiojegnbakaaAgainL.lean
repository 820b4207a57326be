/- The plain law of AccountsAgain. -/
import Derived.Test.YtknmiojegnbakaaLastL
import Derived.Test.YtknmiojegnbakaaEq
namespace Go.Proofs.Ytknmiojegnbakaa
def ofH (h : Hold) : Key × Acct := (h.k, h.a)
theorem ofH_toH (p : Key × Acct) : ofH (toH p) = p := rfl
/-- Holdings put one behind the other, the last one first. -/
def putsM (L : List Hold) : List (Key × Acct) := L.foldr (fun h n => putA n h.k h.a) []
theorem putsM_eq : ∀ L : List Hold, (L.map Hold.k).Nodup → (∀ h ∈ L, h.a ≠ acct0) → putsM L = L.reverse.map ofH
  | [], _, _ => rfl
  | h :: L, hn, hz => by
    simp only [List.map_cons, List.nodup_cons] at hn
    have ih := putsM_eq L hn.2 (fun x hx => hz x (List.mem_cons_of_mem _ hx))
    show putA (putsM L) h.k h.a = _
    have hno : lkp h.k (putsM L) = none := by
      rw [lkp_none_iff, ih, List.map_map]
      intro hm
      obtain ⟨y, hy, he⟩ := List.mem_map.1 hm
      exact hn.1 (List.mem_map.2 ⟨y, List.mem_reverse.1 hy, he⟩)
    unfold putA
    rw [if_neg (hz h (by simp)), put_none hno, ih]
    simp [ofH]
theorem puts_perm {L : List Hold} {m : List (Key × Acct)} (hp : L.Perm (m.map toH)) (hn : (m.map Prod.fst).Nodup) (hz : ∀ p ∈ m, p.2 ≠ acct0) : (putsM L).Perm m := by
  rw [putsM_eq L (holds_nodup hp hn) (fun h hh => by
    obtain ⟨p, hm, rfl⟩ := List.mem_map.1 (hp.mem_iff.1 hh)
    exact hz p hm)]
  refine ((List.reverse_perm L).map ofH).trans ((hp.map ofH).trans ?_)
  rw [List.map_map]
  have : (ofH ∘ toH) = id := by funext p; rfl
  rw [this, List.map_id]
theorem lkp_perm {m n : List (Key × Acct)} (hp : m.Perm n) (hm : (m.map Prod.fst).Nodup) (k : Key) : lkp k m = lkp k n := by
  have hn : (n.map Prod.fst).Nodup := (hp.map Prod.fst).nodup_iff.1 hm
  cases h : lkp k m with
  | some a => exact (lkp_of_mem hn (hp.mem_iff.1 (lkp_mem h))).symm
  | none =>
    rw [lkp_none_iff] at h
    refine ((lkp_none_iff k n).2 fun hh => h ?_).symm
    exact (hp.map Prod.fst).mem_iff.2 hh
theorem same_perm {m n : List (Key × Acct)} (hp : m.Perm n) (hm : (m.map Prod.fst).Nodup) : sameB m n = true := by
  have hn : (n.map Prod.fst).Nodup := (hp.map Prod.fst).nodup_iff.1 hm
  unfold sameB
  rw [decide_eq_true hp.length_eq, Bool.true_and, List.all_eq_true]
  intro p hpm
  rw [decide_eq_true_eq]
  exact lkp_of_mem hn (hp.mem_iff.1 hpm)
theorem perm_of_sub {α : Type} [DecidableEq α] : ∀ {m n : List α}, m.Nodup → (∀ x ∈ m, x ∈ n) → n.length ≤ m.length → m.Perm n
  | [], n, _, _, hl => by
    have : n = [] := List.length_eq_zero_iff.1 (by simpa using hl)
    rw [this]
  | x :: m, n, hm, hs, hl => by
    simp only [List.nodup_cons] at hm
    have hx := hs x (by simp)
    have h1 := List.perm_cons_erase hx
    refine .trans ?_ h1.symm
    refine (perm_of_sub hm.2 (fun y hy => ?_) ?_).cons x
    · have := h1.mem_iff.1 (hs y (List.mem_cons_of_mem _ hy))
      rcases List.mem_cons.1 this with e | e
      · subst e; exact absurd hy hm.1
      · exact e
    · have := h1.length_eq
      simp only [List.length_cons] at this hl
      omega
instance : DecidableEq (Key × Acct) := inferInstance
theorem perm_of_same {m n : List (Key × Acct)} (hm : (m.map Prod.fst).Nodup) (h : sameB m n = true) : m.Perm n := by
  unfold sameB at h
  rw [Bool.and_eq_true, decide_eq_true_eq, List.all_eq_true] at h
  refine perm_of_sub (nodup_of_keys hm) (fun p hp => ?_) (by omega)
  have := h.2 p hp
  rw [decide_eq_true_eq] at this
  exact lkp_mem this
theorem put_same : ∀ {m : List (Key × Acct)} {k : Key} {a : Acct}, lkp k m = some a → put k a m = m
  | [], _, _, h => by cases h
  | p :: m, k, a, h => by
    unfold lkp at h
    unfold put
    by_cases hp : p.1 = k
    · rw [if_pos hp] at h ⊢
      cases h
      subst hp
      rfl
    · rw [if_neg hp] at h ⊢
      rw [put_same h]
/-- With one account put once more: the same just where it was that one. -/
theorem again_law {m n : List (Key × Acct)} (hp : n.Perm m) (hm : (m.map Prod.fst).Nodup) (hz : ∀ p ∈ m, p.2 ≠ acct0) (k : Key) (a : Acct) : sameB m (putA n k a) = decide (getA n k = a) := by
  have hn : (n.map Prod.fst).Nodup := (hp.map Prod.fst).nodup_iff.2 hm
  rw [Bool.eq_iff_iff, decide_eq_true_eq]
  constructor
  · intro h
    have h1 := perm_of_same hm h
    have h2 := getA_putA n hn k a
    unfold getA at h2 ⊢
    rw [← lkp_perm h1 hm, lkp_perm hp.symm hm] at h2
    exact h2
  · intro h
    have e : putA n k a = n := by
      unfold putA
      unfold getA at h
      cases hk : lkp k n with
      | none =>
        rw [hk] at h
        have ha : a = acct0 := by rw [← h]; rfl
        rw [if_pos ha, del_none hk]
      | some b =>
        rw [hk] at h
        have hb : b = a := h
        subst hb
        have hbz : b ≠ acct0 := hz (k, b) (hp.mem_iff.1 (lkp_mem hk))
        rw [if_neg hbz, put_same hk]
    rw [e]
    exact same_perm hp.symm hm
theorem getA_perm {m n : List (Key × Acct)} (hp : n.Perm m) (hm : (m.map Prod.fst).Nodup) (k : Key) : getA n k = getA m k := by
  unfold getA
  rw [lkp_perm hp.symm hm]
end Go.Proofs.Ytknmiojegnbakaa
