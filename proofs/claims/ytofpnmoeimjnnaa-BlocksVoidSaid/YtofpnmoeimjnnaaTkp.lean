/- What a block has room for, in plain Lean: sums that are held, what each key's writers cost, and what the law makes of it. -/
import Derived.Test.YtofpnmoeimjnnaaLib
namespace Go.Proofs.Ytofpnmoeimjnnaa
set_option linter.unusedVariables false
/-- A sum, held at the greatest number. -/
def sat (a b : UInt64) : UInt64 := if a.toNat + b.toNat < 18446744073709551616 then a + b else 18446744073709551615
theorem sat_toNat (a b : UInt64) : (sat a b).toNat = min (a.toNat + b.toNat) 18446744073709551615 := by
  unfold sat
  have ha := a.toNat_lt
  have hb := b.toNat_lt
  split
  · rename_i h
    rw [UInt64.toNat_add, Nat.mod_eq_of_lt h]
    omega
  · show (18446744073709551615 : Nat) = _
    omega
/-- What is there of a key. -/
def ofK (m : List (Key × UInt64)) (k : Key) : UInt64 := (lkp k m).getD 0
theorem ofK_put (m : List (Key × UInt64)) (k j : Key) (v : UInt64) : ofK (put k v m) j = if j = k then v else ofK m j := by
  unfold ofK
  rw [lkp_put]
  split <;> rfl
/-- Each of some keys put, by a function. -/
def putAll (f : Key → UInt64) (ws : List Key) (m : List (Key × UInt64)) : List (Key × UInt64) := ws.foldl (fun m k => put k (f k) m) m
theorem putAll_snoc (f : Key → UInt64) (ws : List Key) (k : Key) (m : List (Key × UInt64)) : putAll f (ws ++ [k]) m = put k (f k) (putAll f ws m) := by simp [putAll]
theorem putAll_nil (f : Key → UInt64) (m : List (Key × UInt64)) : putAll f [] m = m := rfl
theorem ofK_putAll (f : Key → UInt64) (j : Key) : ∀ (ws : List Key) (m : List (Key × UInt64)), ofK (putAll f ws m) j = if j ∈ ws then f j else ofK m j
  | [], m => by simp [putAll]
  | k :: r, m => by
    show ofK (putAll f r (put k (f k) m)) j = _
    rw [ofK_putAll f j r, ofK_put]
    by_cases h1 : j ∈ r
    · simp [h1]
    · by_cases h2 : j = k
      · subst h2; simp
      · simp [h1, h2]
theorem putAll_nodup (f : Key → UInt64) : ∀ (ws : List Key) {m : List (Key × UInt64)}, (m.map Prod.fst).Nodup → ((putAll f ws m).map Prod.fst).Nodup
  | [], m, h => h
  | k :: r, m, h => putAll_nodup f r (nodup_put h k _)
theorem lkp_putAll (f : Key → UInt64) (j : Key) : ∀ (ws : List Key) (m : List (Key × UInt64)), lkp j (putAll f ws m) = if j ∈ ws then some (f j) else lkp j m
  | [], m => by simp [putAll]
  | k :: r, m => by
    show lkp j (putAll f r (put k (f k) m)) = _
    rw [lkp_putAll f j r, lkp_put]
    by_cases h1 : j ∈ r
    · simp [h1]
    · by_cases h2 : j = k
      · subst h2; simp
      · simp [h1, h2]
/-- Entries put one by one. -/
def putL (l : List (Key × UInt64)) (m : List (Key × UInt64)) : List (Key × UInt64) := l.foldl (fun m p => put p.1 p.2 m) m
theorem lkp_putL (j : Key) : ∀ (l : List (Key × UInt64)) (m : List (Key × UInt64)), (l.map Prod.fst).Nodup → lkp j (putL l m) = match lkp j l with
    | some v => some v
    | none => lkp j m
  | [], m, _ => rfl
  | p :: r, m, h => by
    simp only [List.map_cons, List.nodup_cons] at h
    show lkp j (putL r (put p.1 p.2 m)) = _
    rw [lkp_putL j r _ h.2, lkp_put]
    by_cases h1 : p.1 = j
    · subst h1
      rw [(lkp_none_iff _ _).2 h.1, if_pos rfl, lkp, if_pos rfl]
    · rw [if_neg (Ne.symm h1), lkp, if_neg h1]
theorem lkp_perm {l m : List (Key × UInt64)} (hp : l.Perm m) (hn : (m.map Prod.fst).Nodup) (j : Key) : lkp j l = lkp j m := by
  have hl : (l.map Prod.fst).Nodup := (hp.map Prod.fst).nodup_iff.2 hn
  cases h : lkp j m with
  | some v => exact lkp_of_mem hl (hp.mem_iff.2 (lkp_mem h))
  | none =>
    rw [lkp_none_iff] at h ⊢
    exact fun hm => h ((hp.map Prod.fst).mem_iff.1 hm)
/-- What is there behind an addition. -/
theorem ofK_added {now l : List (Key × UInt64)} {f : Key → UInt64} {ws : List Key} (hnow : now = putAll f ws []) (hp : l.Perm now) (m : List (Key × UInt64)) (j : Key) : ofK (putL l m) j = if j ∈ ws then f j else ofK m j := by
  subst hnow
  have hn : ((putAll f ws []).map Prod.fst).Nodup := putAll_nodup f ws (by simp)
  unfold ofK
  rw [lkp_putL j l m ((hp.map Prod.fst).nodup_iff.2 hn), lkp_perm hp hn, lkp_putAll]
  by_cases h : j ∈ ws
  · simp [h]
  · simp [h, lkp]
/-- Limits. -/
structure Lim where
  b : UInt64
  a : UInt64
  s : UInt64
/-- Is there room? The error's number. -/
def would (L : Lim) (b s : UInt64) (f : Key → UInt64) (c : UInt64) (ws : List Key) (sp : UInt64) : Nat :=
  if L.b < sat b c then 24 else if ws.any (fun k => decide (L.a < sat (f k) c)) then 25 else if L.s < sat s sp then 26 else 0
theorem would_cases (L : Lim) (b s : UInt64) (f : Key → UInt64) (c : UInt64) (ws : List Key) (sp : UInt64) :
    (would L b s f c ws sp = 24 ∧ L.b < sat b c) ∨ (would L b s f c ws sp = 25 ∧ ∃ k ∈ ws, L.a < sat (f k) c) ∨ (would L b s f c ws sp = 26 ∧ L.s < sat s sp) ∨
    (would L b s f c ws sp = 0 ∧ ¬ L.b < sat b c ∧ (∀ k ∈ ws, ¬ L.a < sat (f k) c) ∧ ¬ L.s < sat s sp) := by
  unfold would
  by_cases h1 : L.b < sat b c
  · exact .inl ⟨if_pos h1, h1⟩
  · rw [if_neg h1]
    by_cases h2 : ws.any (fun k => decide (L.a < sat (f k) c)) = true
    · rw [if_pos h2]
      refine .inr (.inl ⟨rfl, ?_⟩)
      obtain ⟨k, hk, h3⟩ := List.any_eq_true.1 h2
      exact ⟨k, hk, of_decide_eq_true h3⟩
    · rw [if_neg h2]
      have h3 : ∀ k ∈ ws, ¬ L.a < sat (f k) c := fun k hk hlt => h2 (List.any_eq_true.2 ⟨k, hk, decide_eq_true hlt⟩)
      by_cases h4 : L.s < sat s sp
      · exact .inr (.inr (.inl ⟨if_pos h4, h4⟩))
      · exact .inr (.inr (.inr ⟨if_neg h4, h1, h3, h4⟩))
/-- Over, as the law says it: a plain sum that goes round, or is above. -/
def over (x c m : UInt64) : Bool := decide (x + c < c) || decide (m < x + c)
theorem over_of {x c m : UInt64} (h : m < sat x c) : over x c m = true := by
  unfold over
  rw [Bool.or_eq_true, decide_eq_true_iff, decide_eq_true_iff]
  rw [UInt64.lt_iff_toNat_lt] at h ⊢
  rw [UInt64.lt_iff_toNat_lt, UInt64.toNat_add]
  rw [sat_toNat] at h
  have hx := x.toNat_lt
  have hc := c.toNat_lt
  omega
theorem over_not {x c m : UInt64} (h : ¬ m < sat x c) (hr : ¬ x + c < c) : over x c m = false := by
  unfold over
  rw [Bool.or_eq_false_iff, decide_eq_false_iff_not, decide_eq_false_iff_not]
  refine ⟨hr, ?_⟩
  rw [UInt64.lt_iff_toNat_lt] at h hr ⊢
  rw [UInt64.toNat_add] at hr ⊢
  rw [sat_toNat] at h
  have hx := x.toNat_lt
  have hc := c.toNat_lt
  omega
theorem sat_eq {x c : UInt64} (hr : ¬ x + c < c) : sat x c = x + c := by
  rw [UInt64.lt_iff_toNat_lt, UInt64.toNat_add] at hr
  apply UInt64.toNat_inj.1
  rw [sat_toNat, UInt64.toNat_add]
  have hx := x.toNat_lt
  have hc := c.toNat_lt
  omega
theorem round_sym {x c : UInt64} : (x + c < x) ↔ (x + c < c) := by
  rw [UInt64.lt_iff_toNat_lt, UInt64.lt_iff_toNat_lt, UInt64.toNat_add]
  have hx := x.toNat_lt
  have hc := c.toNat_lt
  omega
end Go.Proofs.Ytofpnmoeimjnnaa
