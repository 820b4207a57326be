/- Graphs: plain facts on what lies in a graph. -/
import Derived.Test.YtffcnnogkpdinaaGl
import Derived.Test.YtffcnnogkpdinaaGrd
namespace Go.Proofs.Ytffcnnogkpdinaa
open Go.RowKit
set_option linter.unusedSimpArgs false
set_option linter.unusedVariables false
def idn (j : Nat) : Int64 := Int64.ofInt (j : Int)
theorem idn_toInt {j : Nat} (h : j ≤ 1000) : (idn j).toInt = (j : Int) := by
  unfold idn
  rw [Int64.toInt_ofInt_of_le (by omega) (by omega)]
theorem idn_inj {i j : Nat} (hi : i ≤ 1000) (hj : j ≤ 1000) (h : idn i = idn j) : i = j := by
  have := congrArg Int64.toInt h
  rw [idn_toInt hi, idn_toInt hj] at this
  omega
theorem idn_ne {j : Nat} (h : j ≤ 1000) : idn j ≠ -1 := fun e => by
  have := congrArg Int64.toInt e
  rw [idn_toInt h] at this
  have h2 : ((-1 : Int64)).toInt = -1 := rfl
  rw [h2] at this
  omega
def rolesAt (l : List Ac) (j : Nat) : List Role := (l[j]?.map fun x => x.s.l).getD []
theorem rolesAt_of {l : List Ac} {j : Nat} {x : Ac} (h : l[j]? = some x) : rolesAt l j = x.s.l := by simp [rolesAt, h]
/-- What lies in a graph, once the first of the acts are put. -/
def KL (l : List Ac) : Nat → List Rn
  | 0 => []
  | i + 1 => KL l i ++ [⟨idn i, chainR (KL l i) (idn i) (rolesAt l i), rolesAt l i⟩]
theorem KL_succ (l : List Ac) (i : Nat) : KL l (i + 1) = KL l i ++ [⟨idn i, chainR (KL l i) (idn i) (rolesAt l i), rolesAt l i⟩] := rfl
theorem KL_len (l : List Ac) : ∀ i, (KL l i).length = i
  | 0 => rfl
  | i + 1 => by rw [KL_succ, List.length_append, KL_len l i]; rfl
theorem chainR_of (K : List Rn) (id : Int64) (r : List Role) : (chainR K id r = id ∧ K.any (fun x => conf x.l r) = false) ∨ ∃ x ∈ K, chainR K id r = x.ch ∧ conf x.l r = true := by
  unfold chainR
  cases h : (K.filter fun x => conf x.l r).getLast? with
  | none =>
    refine .inl ⟨rfl, ?_⟩
    rw [List.getLast?_eq_none_iff] at h
    rw [List.any_eq_false]
    intro x hx hc
    exact List.filter_eq_nil_iff.1 h x hx hc
  | some x =>
    have hx := List.mem_filter.1 (List.mem_of_getLast? h)
    exact .inr ⟨x, hx.1, rfl, hx.2⟩
theorem KL_mem (l : List Ac) : ∀ (i : Nat) {x : Rn}, x ∈ KL l i → ∃ j, j < i ∧ x.id = idn j ∧ x.l = rolesAt l j ∧ ∃ c, c < i ∧ x.ch = idn c
  | 0, x, h => by cases h
  | i + 1, x, h => by
    rw [KL_succ] at h
    rcases List.mem_append.1 h with h | h
    · obtain ⟨j, h1, h2, h3, c, h4, h5⟩ := KL_mem l i h
      exact ⟨j, by omega, h2, h3, c, by omega, h5⟩
    · rcases List.mem_singleton.1 h with rfl
      refine ⟨i, by omega, rfl, rfl, ?_⟩
      rcases chainR_of (KL l i) (idn i) (rolesAt l i) with ⟨h1, _⟩ | ⟨y, hy, h1, _⟩
      · exact ⟨i, by omega, h1⟩
      · obtain ⟨_, _, _, _, c, h4, h5⟩ := KL_mem l i hy
        exact ⟨c, by omega, h1.trans h5⟩
theorem KL_at (l : List Ac) : ∀ (i : Nat) {j : Nat}, j < i → ∃ ch, (KL l i)[j]? = some ⟨idn j, ch, rolesAt l j⟩
  | 0, j, h => by omega
  | i + 1, j, h => by
    rw [KL_succ]
    by_cases hj : j < i
    · obtain ⟨ch, hc⟩ := KL_at l i hj
      exact ⟨ch, by rw [List.getElem?_append_left (by rw [KL_len]; exact hj), hc]⟩
    · obtain rfl : j = i := by omega
      exact ⟨_, by rw [List.getElem?_append_right (by rw [KL_len]; omega), KL_len, Nat.sub_self]; rfl⟩
theorem KL_new {l : List Ac} {i : Nat} (hi : i ≤ 1000) : ∀ x ∈ KL l i, x.id ≠ idn i := fun x hx e => by
  obtain ⟨j, hj, h1, _⟩ := KL_mem l i hx
  have := idn_inj (by omega) hi (h1.symm.trans e)
  omega
theorem KL_neg {l : List Ac} {i : Nat} (hi : i ≤ 1000) : ∀ x ∈ KL l i, x.id ≠ -1 := fun x hx e => by
  obtain ⟨j, hj, h1, _⟩ := KL_mem l i hx
  exact idn_ne (by omega) (h1.symm.trans e)
theorem split_at {α : Type} {l : List α} {j : Nat} {x : α} (h : l[j]? = some x) : l = l.take j ++ x :: l.drop (j + 1) := by
  obtain ⟨hj, rfl⟩ := List.getElem?_eq_some_iff.1 h
  rw [← List.drop_eq_getElem_cons hj, List.take_append_drop]
theorem readyAt_append : ∀ (X pre r : List Rn), readyAt pre (X ++ r) = readyAt pre X ++ readyAt (pre ++ X) r
  | [], pre, r => by simp [readyAt]
  | x :: X, pre, r => by
    rw [List.cons_append]
    simp only [readyAt]
    rw [readyAt_append X (pre ++ [x]) r, List.append_assoc, List.append_assoc, List.singleton_append]
theorem ready_snoc (K : List Rn) (x : Rn) : readyR (K ++ [x]) = readyR K ++ (if K.any (fun y => conf y.l x.l) then [] else [x.id]) := by
  unfold readyR
  rw [readyAt_append]
  simp [readyAt]
theorem ready_mem {X Y : List Rn} {x : Rn} (h : X.any (fun y => conf y.l x.l) = false) : x.id ∈ readyR (X ++ x :: Y) := by
  unfold readyR
  rw [readyAt_append]
  refine List.mem_append_right _ ?_
  rw [List.nil_append]
  unfold readyAt
  rw [if_neg (by rw [h]; simp)]
  exact List.mem_append_left _ (List.mem_singleton.2 rfl)
theorem readyAt_at {id : Int64} : ∀ (K pre : List Rn), id ∈ readyAt pre K → ∃ X x Y, K = X ++ x :: Y ∧ x.id = id ∧ (pre ++ X).any (fun y => conf y.l x.l) = false
  | [], pre, h => by cases h
  | x :: K, pre, h => by
    unfold readyAt at h
    rcases List.mem_append.1 h with h | h
    · by_cases hc : pre.any (fun y => conf y.l x.l) = true
      · rw [if_pos hc] at h; cases h
      · rw [if_neg hc] at h
        exact ⟨[], x, K, rfl, (List.mem_singleton.1 h).symm, by rw [List.append_nil]; exact Bool.eq_false_iff.2 hc⟩
    · obtain ⟨X, y, Y, h1, h2, h3⟩ := readyAt_at K (pre ++ [x]) h
      exact ⟨x :: X, y, Y, by rw [h1]; rfl, h2, by rw [← h3, List.append_assoc]; rfl⟩
theorem ready_at {id : Int64} {K : List Rn} (h : id ∈ readyR K) : ∃ X x Y, K = X ++ x :: Y ∧ x.id = id ∧ X.any (fun y => conf y.l x.l) = false := readyAt_at K [] h
theorem readyAt_len : ∀ (K pre : List Rn), (readyAt pre K).length ≤ K.length
  | [], pre => Nat.le_refl _
  | x :: K, pre => by
    unfold readyAt
    have ih := readyAt_len K (pre ++ [x])
    rw [List.length_append, List.length_cons]
    split <;> simp <;> omega
theorem ready_len (K : List Rn) : (readyR K).length ≤ K.length := readyAt_len K []
theorem behind_blocked {l : List Ac} {n i : Nat} (hi : i < n) (h : idn i ∉ readyR (KL l n)) : ∃ X x Y, KL l n = X ++ x :: Y ∧ x.id = idn i ∧ X.any (fun y => conf y.l x.l) = true := by
  obtain ⟨ch, hc⟩ := KL_at l n hi
  have hs := split_at hc
  refine ⟨_, _, _, hs, rfl, ?_⟩
  rw [← Bool.not_eq_false]
  intro hf
  have := ready_mem (Y := (KL l n).drop (i + 1)) hf
  rw [← hs] at this
  exact h this
theorem KL_any (l : List Ac) (i : Nat) (r : List Role) : (KL l (i + 1)).any (fun y => conf y.l r) = ((KL l i).any (fun y => conf y.l r) || conf (rolesAt l i) r) := by
  rw [KL_succ, List.any_append]
  simp
theorem chain_new {l : List Ac} {n : Nat} (hn : n ≤ 1000) (r : List Role) : ((chainR (KL l n) (-1) r).toInt == (-1 : Int)) = !((KL l n).any fun y => conf y.l r) := by
  rcases chainR_of (KL l n) (-1) r with ⟨h1, h2⟩ | ⟨x, hx, h1, h2⟩
  · rw [h1, h2]; rfl
  · have h3 : ((KL l n).any fun y => conf y.l r) = true := List.any_eq_true.2 ⟨x, hx, h2⟩
    rw [h3, h1]
    obtain ⟨_, _, _, _, c, h4, h5⟩ := KL_mem l n hx
    rw [h5, idn_toInt (by omega)]
    rw [Bool.not_true, beq_eq_false_iff_ne]
    omega
end Go.Proofs.Ytffcnnogkpdinaa
