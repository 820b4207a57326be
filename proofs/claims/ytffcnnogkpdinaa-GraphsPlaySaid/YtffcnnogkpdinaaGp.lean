/- Graphs, the plain law: who blocks whom is a function of the list of those that are there. -/
import Derived.Test.YtffcnnogkpdinaaLib
namespace Go.Proofs.Ytffcnnogkpdinaa
set_option linter.unusedVariables false
set_option linter.unusedSimpArgs false
set_option linter.unusedSectionVars false
/-- One that was put: its block, its id, its chain, when it was put, its keys (true: it writes that). -/
structure An where
  a : Nat
  id : Int64
  ch : Int64
  pt : Nat
  ks : List (Key × Bool)
deriving DecidableEq
/-- How it uses a key. -/
def An.how (x : An) (k : Key) : Option Bool := lkp k x.ks
/-- Two that conflict at a key. -/
def hitK (k : Key) (x y : Option Bool) : Prop := match x, y with
  | some a, some b => a = true ∨ b = true
  | _, _ => False
def Hit (x y : An) : Prop := ∃ k, hitK k (x.how k) (y.how k)
theorem hitK_symm {k : Key} {x y : Option Bool} (h : hitK k x y) : hitK k y x := by
  unfold hitK at *
  cases x <;> cases y <;> simp_all
  grind
theorem Hit.symm {x y : An} (h : Hit x y) : Hit y x := h.imp fun _ => hitK_symm
/-- A key's spot: who writes it last, and who reads it behind that one. -/
def stepS (k : Key) (s : Option An × List An) (x : An) : Option An × List An := match x.how k with
  | none => s
  | some true => (some x, [])
  | some false => (s.1, s.2 ++ [x])
def spotOf (k : Key) (L : List An) : Option An × List An := L.foldl (stepS k) (none, [])
@[simp] theorem spotOf_nil (k : Key) : spotOf k [] = (none, []) := rfl
theorem spotOf_snoc (k : Key) (L : List An) (x : An) : spotOf k (L ++ [x]) = stepS k (spotOf k L) x := by simp [spotOf]
/-- Those from which an edge leads to one that asks for a key. -/
def srcK (L : List An) (k : Key) (wr : Bool) : List An := (spotOf k L).1.toList ++ if wr then (spotOf k L).2 else []
def srcs (L : List An) (ks : List (Key × Bool)) : List An := ks.flatMap fun p => srcK L p.1 p.2
theorem list_snoc_ind {α : Type} {P : List α → Prop} (h0 : P []) (h1 : ∀ l x, P l → P (l ++ [x])) : ∀ l, P l := by
  intro l
  rw [← List.reverse_reverse l]
  induction l.reverse with
  | nil => exact h0
  | cons x r ih => rw [List.reverse_cons]; exact h1 _ _ ih
theorem spotOf_writer {k : Key} : ∀ {L : List An} {x : An}, (spotOf k L).1 = some x → x ∈ L ∧ x.how k = some true := by
  intro L
  induction L using list_snoc_ind with
  | h0 => intro x h; simp at h
  | h1 l y ih =>
    intro x h
    rw [spotOf_snoc] at h
    unfold stepS at h
    split at h
    · obtain ⟨h1, h2⟩ := ih h
      exact ⟨List.mem_append_left _ h1, h2⟩
    · cases h
      exact ⟨by simp, by assumption⟩
    · obtain ⟨h1, h2⟩ := ih h
      exact ⟨List.mem_append_left _ h1, h2⟩
theorem spotOf_reader {k : Key} : ∀ {L : List An} {x : An}, x ∈ (spotOf k L).2 → x ∈ L ∧ x.how k = some false := by
  intro L
  induction L using list_snoc_ind with
  | h0 => intro x h; simp at h
  | h1 l y ih =>
    intro x h
    rw [spotOf_snoc] at h
    unfold stepS at h
    split at h
    · obtain ⟨h1, h2⟩ := ih h
      exact ⟨List.mem_append_left _ h1, h2⟩
    · cases h
    · rcases List.mem_append.1 h with h | h
      · obtain ⟨h1, h2⟩ := ih h
        exact ⟨List.mem_append_left _ h1, h2⟩
      · obtain rfl := List.mem_singleton.1 h
        exact ⟨by simp, by assumption⟩
theorem spotOf_has_writer {k : Key} : ∀ {L : List An} {x : An}, x ∈ L → x.how k = some true → (spotOf k L).1 ≠ none := by
  intro L
  induction L using list_snoc_ind with
  | h0 => intro x h; simp at h
  | h1 l y ih =>
    intro x h hx
    rw [spotOf_snoc]
    unfold stepS
    rcases List.mem_append.1 h with h | h
    · have := ih h hx
      split <;> simp_all
    · obtain rfl := List.mem_singleton.1 h
      rw [hx]
      simp
theorem spotOf_has_reader {k : Key} : ∀ {L : List An} {x : An}, x ∈ L → x.how k = some false → (spotOf k L).1 ≠ none ∨ x ∈ (spotOf k L).2 := by
  intro L
  induction L using list_snoc_ind with
  | h0 => intro x h; simp at h
  | h1 l y ih =>
    intro x h hx
    rw [spotOf_snoc]
    unfold stepS
    rcases List.mem_append.1 h with h | h
    · have := ih h hx
      split
      · exact this
      · exact .inl (by simp)
      · exact this.imp _root_.id (fun h => List.mem_append_left _ h)
    · obtain rfl := List.mem_singleton.1 h
      rw [hx]
      exact .inr (by simp)
theorem srcK_mem {L : List An} {k : Key} {wr : Bool} {x : An} (h : x ∈ srcK L k wr) : x ∈ L ∧ hitK k (x.how k) (some wr) := by
  rcases List.mem_append.1 h with h | h
  · obtain ⟨h1, h2⟩ := spotOf_writer (Option.mem_toList.1 h)
    exact ⟨h1, by rw [h2]; exact .inl rfl⟩
  · cases wr with
    | false => simp at h
    | true =>
      obtain ⟨h1, h2⟩ := spotOf_reader (show x ∈ (spotOf k L).2 by simpa using h)
      exact ⟨h1, by rw [h2]; exact .inr rfl⟩
theorem srcK_ne {L : List An} {k : Key} {wr : Bool} {x : An} (hx : x ∈ L) (h : hitK k (x.how k) (some wr)) : srcK L k wr ≠ [] := by
  unfold srcK
  cases hh : x.how k with
  | none => rw [hh] at h; exact h.elim
  | some b =>
    rw [hh] at h
    cases b with
    | true =>
      have := spotOf_has_writer hx hh
      cases hs : (spotOf k L).1 with
      | none => exact absurd hs this
      | some y => simp
    | false =>
      have hw : wr = true := by rcases h with h | h <;> simp_all
      subst hw
      rcases spotOf_has_reader hx hh with h1 | h1
      · cases hs : (spotOf k L).1 with
        | none => exact absurd hs h1
        | some y => simp
      · intro e
        have := List.append_eq_nil_iff.1 e
        have h2 : (spotOf k L).2 = [] := by simpa using this.2
        rw [h2] at h1
        cases h1
/-- The latest one that conflicts at a key has an edge. -/
theorem srcK_latest {X Y : List An} {b : An} {k : Key} {wr : Bool} (hb : hitK k (b.how k) (some wr)) (hY : ∀ y ∈ Y, ¬ hitK k (y.how k) (some wr)) : b ∈ srcK (X ++ b :: Y) k wr := by
  induction Y using list_snoc_ind with
  | h0 =>
    unfold srcK
    rw [spotOf_snoc]
    unfold stepS
    cases hh : b.how k with
    | none => rw [hh] at hb; exact hb.elim
    | some v =>
      cases v with
      | true => simp
      | false =>
        have hw : wr = true := by rw [hh] at hb; rcases hb with h | h <;> simp_all
        subst hw
        simp
  | h1 Y y ih =>
    have ih := ih (fun z hz => hY z (List.mem_append_left _ hz))
    have hy := hY y (by simp)
    unfold srcK at ih ⊢
    rw [show X ++ b :: (Y ++ [y]) = (X ++ b :: Y) ++ [y] by simp, spotOf_snoc]
    unfold stepS
    cases hh : y.how k with
    | none => exact ih
    | some v =>
      rw [hh] at hy
      cases v with
      | true => exact absurd (.inl rfl) hy
      | false =>
        cases wr with
        | true => exact absurd (.inr rfl) hy
        | false => simpa using ih
theorem srcs_mem {L : List An} {ks : List (Key × Bool)} {x : An} (h : x ∈ srcs L ks) : x ∈ L ∧ ∃ p ∈ ks, hitK p.1 (x.how p.1) (some p.2) := by
  obtain ⟨p, hp, hx⟩ := List.mem_flatMap.1 h
  obtain ⟨h1, h2⟩ := srcK_mem hx
  exact ⟨h1, p, hp, h2⟩
theorem srcs_ne {L : List An} {ks : List (Key × Bool)} {x : An} (hx : x ∈ L) {p : Key × Bool} (hp : p ∈ ks) (h : hitK p.1 (x.how p.1) (some p.2)) : srcs L ks ≠ [] := by
  intro e
  have := List.flatMap_eq_nil_iff.1 e p hp
  exact srcK_ne hx h this
theorem srcs_latest {X Y : List An} {b : An} {ks : List (Key × Bool)} {p : Key × Bool} (hp : p ∈ ks) (hb : hitK p.1 (b.how p.1) (some p.2)) (hY : ∀ y ∈ Y, ∀ q ∈ ks, ¬ hitK q.1 (y.how q.1) (some q.2)) : b ∈ srcs (X ++ b :: Y) ks :=
  List.mem_flatMap.2 ⟨p, hp, srcK_latest hb (fun y hy => hY y hy p hp)⟩
/-! ### One goes -/
theorem spotOf_gone {k : Key} {L1 : List An} {p : An} (hp1 : p ∉ L1) (hc : p.how k = some true → ∀ x ∈ L1, x.how k = none) : ∀ L2 : List An, p ∉ L2 →
    spotOf k (L1 ++ L2) = ((spotOf k (L1 ++ p :: L2)).1.filter (fun x => decide (x ≠ p)), (spotOf k (L1 ++ p :: L2)).2.filter (fun x => decide (x ≠ p))) := by
  intro L2
  induction L2 using list_snoc_ind with
  | h0 =>
    intro _
    rw [List.append_nil, spotOf_snoc]
    have hw : ∀ x, (spotOf k L1).1 = some x → x ≠ p := fun x hx e => hp1 (e ▸ (spotOf_writer hx).1)
    have hr : (spotOf k L1).2.filter (fun x => decide (x ≠ p)) = (spotOf k L1).2 := by
      rw [List.filter_eq_self]
      intro x hx
      exact decide_eq_true (fun e => hp1 (e ▸ (spotOf_reader hx).1))
    have h1 : (spotOf k L1).1.filter (fun x => decide (x ≠ p)) = (spotOf k L1).1 := by
      cases hs : (spotOf k L1).1 with
      | none => rfl
      | some x => simp [Option.filter, hw x hs]
    unfold stepS
    split
    · rw [h1, hr]
    · rename_i hh
      have hn := hc hh
      have : spotOf k L1 = (none, []) := by
        apply Prod.ext
        · cases hs : (spotOf k L1).1 with
          | none => rfl
          | some x =>
            obtain ⟨h2, h3⟩ := spotOf_writer hs
            rw [hn x h2] at h3
            cases h3
        · cases hs : (spotOf k L1).2 with
          | nil => rfl
          | cons x r =>
            obtain ⟨h2, h3⟩ := spotOf_reader (k := k) (L := L1) (x := x) (by rw [hs]; simp)
            rw [hn x h2] at h3
            cases h3
      rw [this]
      simp [Option.filter]
    · rw [List.filter_append, hr, h1]
      simp
  | h1 Y y ih =>
    intro hy
    have hyp : y ≠ p := fun e => hy (by simp [e])
    have ih := ih (fun h => hy (List.mem_append_left _ h))
    rw [show L1 ++ (Y ++ [y]) = (L1 ++ Y) ++ [y] by simp, show L1 ++ p :: (Y ++ [y]) = (L1 ++ p :: Y) ++ [y] by simp, spotOf_snoc, spotOf_snoc, ih]
    unfold stepS
    split
    · rfl
    · simp [Option.filter, hyp]
    · rw [List.filter_append]
      simp [hyp]
theorem srcK_gone {k : Key} {wr : Bool} {L1 L2 : List An} {p : An} (hp1 : p ∉ L1) (hp2 : p ∉ L2) (hc : p.how k = some true → ∀ x ∈ L1, x.how k = none) : srcK (L1 ++ L2) k wr = (srcK (L1 ++ p :: L2) k wr).filter (fun x => decide (x ≠ p)) := by
  unfold srcK
  rw [spotOf_gone hp1 hc L2 hp2, List.filter_append]
  congr 1
  · cases (spotOf k (L1 ++ p :: L2)).1 with
    | none => rfl
    | some x =>
      by_cases e : x = p <;> simp [Option.filter, e]
  · split <;> simp
theorem srcs_gone {ks : List (Key × Bool)} {L1 L2 : List An} {p : An} (hp1 : p ∉ L1) (hp2 : p ∉ L2) (hc : ∀ k, p.how k = some true → ∀ x ∈ L1, x.how k = none) : srcs (L1 ++ L2) ks = (srcs (L1 ++ p :: L2) ks).filter (fun x => decide (x ≠ p)) := by
  unfold srcs
  induction ks with
  | nil => rfl
  | cons q r ih => rw [List.flatMap_cons, List.flatMap_cons, List.filter_append, ih, srcK_gone hp1 hp2 (hc q.1)]
end Go.Proofs.Ytffcnnogkpdinaa
