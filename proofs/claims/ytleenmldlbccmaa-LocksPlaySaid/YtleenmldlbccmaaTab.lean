/- The plain law of a table of locks: maps of counts and of bits, and the list of locks that they hold. -/
import Derived.Test.YtleenmldlbccmaaThr
namespace Go.Proofs.Ytleenmldlbccmaa
set_option linter.unusedVariables false
set_option linter.unusedSimpArgs false
/-- A lock: its key, to write?, whose. -/
abbrev Lk := Key × Bool × Fin 64

theorem cbit_lt (x : Nat) (i : Fin 64) : cbit x i < 2 ^ 64 := by
  have h : bits .andNot .u64 (x : Int) ((2 : Int) ^ i.val) < 18446744073709551616 := by
    show IntKind.u64.wrap _ < _
    rw [IntKind.wrap_u64]
    omega
  unfold cbit
  omega
theorem sbit_lt (x : Nat) (i : Fin 64) : sbit x i < 2 ^ 64 := by
  have h : bits .or .u64 (x : Int) ((2 : Int) ^ i.val) < 18446744073709551616 := by
    show IntKind.u64.wrap _ < _
    rw [IntKind.wrap_u64]
    omega
  unfold sbit
  omega
theorem cbit_testBit (x : Nat) (hx : x < 2 ^ 64) (i : Fin 64) (j : Nat) : (cbit x i).testBit j = (x.testBit j && decide (j ≠ i.val)) := by
  have h1 := u64_andNot_nat x (2 ^ i.val) (by simpa using hx) (pw_lt i)
  have e : ((2 ^ i.val : Nat) : Int) = (2 : Int) ^ i.val := by simp
  rw [e] at h1
  unfold cbit
  rw [h1, Int.toNat_natCast, Nat.testBit_and]
  have h2 : (18446744073709551615 - 2 ^ i.val) = 2 ^ 64 - (2 ^ i.val + 1) := by
    have := pw_lt i
    omega
  rw [h2, Nat.testBit_two_pow_sub_succ (by have := pw_lt i; simpa using this), Nat.testBit_two_pow]
  by_cases hj : j < 64
  · simp only [hj, decide_true, Bool.true_and]
    by_cases hji : j = i.val
    · subst hji; simp
    · simp [hji, Ne.symm hji]
  · have : x.testBit j = false := Nat.testBit_lt_two_pow (Nat.lt_of_lt_of_le hx (Nat.pow_le_pow_right (by omega) (by omega)))
    simp [this]
theorem sbit_testBit (x : Nat) (hx : x < 2 ^ 64) (i : Fin 64) (j : Nat) : (sbit x i).testBit j = (x.testBit j || decide (j = i.val)) := by
  have h1 := u64_or_nat x (2 ^ i.val) (by simpa using hx) (pw_lt i)
  have e : ((2 ^ i.val : Nat) : Int) = (2 : Int) ^ i.val := by simp
  rw [e] at h1
  unfold sbit
  rw [h1, Int.toNat_natCast, Nat.testBit_or, Nat.testBit_two_pow]
  by_cases hji : j = i.val
  · subst hji; simp
  · simp [hji, Ne.symm hji]
theorem onBit_testBit (x : Nat) (hx : x < 2 ^ 64) (i : Fin 64) (on : Bool) (j : Nat) : (onBit x i on).testBit j = if j = i.val then on else x.testBit j := by
  unfold onBit
  cases on
  · simp only [Bool.false_eq_true, if_false]
    rw [cbit_testBit x hx]
    by_cases h : j = i.val <;> simp [h]
  · simp only [if_true]
    rw [sbit_testBit _ (cbit_lt x i), cbit_testBit x hx]
    by_cases h : j = i.val <;> simp [h]
theorem lt_of_bits {x : Nat} (h : ∀ j, x.testBit j = true → j < 64) : x < 2 ^ 64 := by
  apply Nat.lt_pow_two_of_testBit
  intro i hi
  cases hb : x.testBit i with
  | false => rfl
  | true => have := h i hb; omega

theorem getD_putz {κ α β : Type} [DecidableEq κ] {m : List (κ × (α × β))} (hn : (m.map Prod.fst).Nodup) (s s' : κ) (v o : α × β) (z : Bool) (hz : z = true → v = o) :
    (lkp s' (putz s v z m)).getD o = if s' = s then v else (lkp s' m).getD o := by
  unfold putz
  cases z with
  | false =>
    simp only [Bool.false_eq_true, if_false, lkp_put]
    by_cases h : s' = s <;> simp [h]
  | true =>
    simp only [if_true]
    rw [lkp_del (nodup_put hn s v), lkp_put]
    by_cases h : s' = s
    · simp [h, hz rfl]
    · simp [h]

structure TabInv (mh : List (Spot × (Int × Int))) (mw : List (Key × (Nat × Nat))) (L : List Lk) : Prop where
  held : ∀ k i, (lkp (k, i) mh).getD (0, 0) = ((L.count (k, false, i) : Int), (L.count (k, true, i) : Int))
  nonz : ∀ s c, lkp s mh = some c → c ≠ (0, 0)
  who0 : ∀ k j, ((lkp k mw).getD (0, 0)).1.testBit j = true ↔ ∃ h : j < 64, 0 < L.count (k, false, (⟨j, h⟩ : Fin 64))
  who1 : ∀ k j, ((lkp k mw).getD (0, 0)).2.testBit j = true ↔ ∃ h : j < 64, 0 < L.count (k, true, (⟨j, h⟩ : Fin 64))

theorem TabInv.lt0 {mh : List (Spot × (Int × Int))} {mw : List (Key × (Nat × Nat))} {L : List Lk} (h : TabInv mh mw L) (k : Key) :
    ((lkp k mw).getD (0, 0)).1 < 2 ^ 64 ∧ ((lkp k mw).getD (0, 0)).2 < 2 ^ 64 :=
  ⟨lt_of_bits fun j hj => ((h.who0 k j).1 hj).1, lt_of_bits fun j hj => ((h.who1 k j).1 hj).1⟩
theorem TabInv.lt {mh : List (Spot × (Int × Int))} {mw : List (Key × (Nat × Nat))} {L : List Lk} (h : TabInv mh mw L) (k : Key) (u : Nat × Nat) (hu : lkp k mw = some u) :
    u.1 < 18446744073709551616 ∧ u.2 < 18446744073709551616 := by
  have := h.lt0 k
  rw [hu] at this
  simpa using this
theorem TabInv.bound {mh : List (Spot × (Int × Int))} {mw : List (Key × (Nat × Nat))} {L : List Lk} (h : TabInv mh mw L) (hL : L.length ≤ 1000000) (s : Spot) (c : Int × Int) (hc : lkp s mh = some c) :
    0 ≤ c.1 ∧ c.1 ≤ 1000000 ∧ 0 ≤ c.2 ∧ c.2 ≤ 1000000 := by
  obtain ⟨k, i⟩ := s
  have := h.held k i
  rw [hc] at this
  have h1 := List.count_le_length (a := ((k, false, i) : Lk)) (l := L)
  have h2 := List.count_le_length (a := ((k, true, i) : Lk)) (l := L)
  simp only [Option.getD_some] at this
  subst this
  dsimp only
  omega
theorem TabInv.empty : TabInv [] [] [] where
  held k i := rfl
  nonz s c h := by cases h
  who0 k j := by simp [lkp]
  who1 k j := by simp [lkp]
theorem TabInv.perm {mh : List (Spot × (Int × Int))} {mw : List (Key × (Nat × Nat))} {L L' : List Lk} (h : TabInv mh mw L) (hp : ∀ x, L'.count x = L.count x) : TabInv mh mw L' where
  held k i := by rw [hp, hp]; exact h.held k i
  nonz := h.nonz
  who0 k j := by simp only [hp]; exact h.who0 k j
  who1 k j := by simp only [hp]; exact h.who1 k j

/-- A turn by one, either way. -/
theorem TabInv.turn {mh : List (Spot × (Int × Int))} {mw : List (Key × (Nat × Nat))} {L L' : List Lk} (h : TabInv mh mw L) (hn : (mh.map Prod.fst).Nodup) (hw : (mw.map Prod.fst).Nodup) (k : Key) (i : Fin 64) (b : Bool) (d : Int)
    (hc : ∀ x : Lk, (L'.count x : Int) = (L.count x : Int) + if x = (k, b, i) then d else 0) : TabInv (turnH mh k i b d) (turnW mh mw k i b d) L' := by
  have hC : turnC mh k i b d = ((L'.count (k, false, i) : Int), (L'.count (k, true, i) : Int)) := by
    unfold turnC
    rw [h.held, hc, hc]
    cases b <;> simp [stepC]
  have hother : ∀ (k' : Key) (i' : Fin 64) (b' : Bool), ¬ (k' = k ∧ i' = i) → L'.count (k', b', i') = L.count (k', b', i') := fun k' i' b' hne => by
    have := hc (k', b', i')
    rw [if_neg (by rintro ⟨rfl, rfl, rfl⟩; exact hne ⟨rfl, rfl⟩)] at this
    omega
  have hway : ∀ b', b' ≠ b → L'.count (k, b', i) = L.count (k, b', i) := fun b' hne => by
    have := hc (k, b', i)
    rw [if_neg (by rintro ⟨_, rfl, _⟩; exact hne rfl)] at this
    omega
  have hz1 : decide (turnC mh k i b d = (0, 0)) = true → turnC mh k i b d = (0, 0) := fun h => by simpa using h
  have hz2 : decide (turnU mh mw k i b d = (0, 0)) = true → turnU mh mw k i b d = (0, 0) := fun h => by simpa using h
  have hon : wayC (turnC mh k i b d) b = (L'.count (k, b, i) : Int) := by
    rw [hC]
    cases b <;> rfl
  obtain ⟨l0, l1⟩ := h.lt0 k
  refine ⟨fun k' i' => ?_, fun s c hs => ?_, fun k' j => ?_, fun k' j => ?_⟩
  · unfold turnH
    rw [getD_putz hn _ _ _ (0, 0) _ hz1]
    by_cases he : ((k', i') : Spot) = (k, i)
    · cases he
      rw [if_pos rfl, hC]
    · rw [if_neg he, h.held, hother k' i' false (fun e => he (by rw [e.1, e.2])), hother k' i' true (fun e => he (by rw [e.1, e.2]))]
  · unfold turnH putz at hs
    cases hzz : decide (turnC mh k i b d = (0, 0)) with
    | true =>
      rw [hzz] at hs
      simp only [if_true] at hs
      rw [lkp_del (nodup_put hn _ _), lkp_put] at hs
      by_cases he : s = (k, i)
      · simp [he] at hs
      · simp [he] at hs
        exact h.nonz s c hs
    | false =>
      rw [hzz] at hs
      simp only [Bool.false_eq_true, if_false] at hs
      rw [lkp_put] at hs
      by_cases he : s = (k, i)
      · simp [he] at hs
        rw [← hs]
        simpa using hzz
      · simp [he] at hs
        exact h.nonz s c hs
  · unfold turnW
    rw [getD_putz hw _ _ _ (0, 0) _ hz2]
    by_cases he : k' = k
    · subst he
      rw [if_pos rfl]
      cases b with
      | false =>
        show (onBit _ i _).testBit j = true ↔ _
        rw [onBit_testBit _ l0, hon]
        by_cases hj : j = i.val
        · subst hj
          simp
        · rw [if_neg hj, h.who0]
          constructor
          · rintro ⟨hlt, hp⟩
            exact ⟨hlt, by rw [hother k' ⟨j, hlt⟩ false (fun e => hj (by rw [← e.2]))]; exact hp⟩
          · rintro ⟨hlt, hp⟩
            exact ⟨hlt, by rw [← hother k' ⟨j, hlt⟩ false (fun e => hj (by rw [← e.2]))]; exact hp⟩
      | true =>
        show ((lkp k' mw).getD (0, 0)).1.testBit j = true ↔ _
        rw [h.who0]
        have : ∀ hlt : j < 64, L'.count (k', false, (⟨j, hlt⟩ : Fin 64)) = L.count (k', false, (⟨j, hlt⟩ : Fin 64)) := fun hlt => by
          by_cases hj : (⟨j, hlt⟩ : Fin 64) = i
          · rw [hj]; exact hway false (by simp)
          · exact hother _ _ _ (fun e => hj e.2)
        simp only [this]
    · rw [if_neg he, h.who0]
      have : ∀ hlt : j < 64, L'.count (k', false, (⟨j, hlt⟩ : Fin 64)) = L.count (k', false, (⟨j, hlt⟩ : Fin 64)) := fun hlt => hother _ _ _ (fun e => he e.1)
      simp only [this]
  · unfold turnW
    rw [getD_putz hw _ _ _ (0, 0) _ hz2]
    by_cases he : k' = k
    · subst he
      rw [if_pos rfl]
      cases b with
      | true =>
        show (onBit _ i _).testBit j = true ↔ _
        rw [onBit_testBit _ l1, hon]
        by_cases hj : j = i.val
        · subst hj
          simp
        · rw [if_neg hj, h.who1]
          constructor
          · rintro ⟨hlt, hp⟩
            exact ⟨hlt, by rw [hother k' ⟨j, hlt⟩ true (fun e => hj (by rw [← e.2]))]; exact hp⟩
          · rintro ⟨hlt, hp⟩
            exact ⟨hlt, by rw [← hother k' ⟨j, hlt⟩ true (fun e => hj (by rw [← e.2]))]; exact hp⟩
      | false =>
        show ((lkp k' mw).getD (0, 0)).2.testBit j = true ↔ _
        rw [h.who1]
        have : ∀ hlt : j < 64, L'.count (k', true, (⟨j, hlt⟩ : Fin 64)) = L.count (k', true, (⟨j, hlt⟩ : Fin 64)) := fun hlt => by
          by_cases hj : (⟨j, hlt⟩ : Fin 64) = i
          · rw [hj]; exact hway true (by simp)
          · exact hother _ _ _ (fun e => hj e.2)
        simp only [this]
    · rw [if_neg he, h.who1]
      have : ∀ hlt : j < 64, L'.count (k', true, (⟨j, hlt⟩ : Fin 64)) = L.count (k', true, (⟨j, hlt⟩ : Fin 64)) := fun hlt => hother _ _ _ (fun e => he e.1)
      simp only [this]

/-- Nobody has a lock: the map of counts is empty. -/
theorem TabInv.free {mh : List (Spot × (Int × Int))} {mw : List (Key × (Nat × Nat))} {L : List Lk} (h : TabInv mh mw L) (hn : (mh.map Prod.fst).Nodup) : (mh.length == 0) = L.isEmpty := by
  rw [Bool.eq_iff_iff]
  simp only [beq_iff_eq, List.isEmpty_iff, List.length_eq_zero_iff]
  constructor
  · rintro rfl
    rw [List.eq_nil_iff_forall_not_mem]
    rintro ⟨k, b, i⟩ hx
    have h1 := h.held k i
    have h2 := List.count_pos_iff.2 hx
    simp only [lkp, Option.getD_none, Prod.mk.injEq] at h1
    cases b <;> omega
  · rintro rfl
    match mh, hn with
    | [], _ => rfl
    | p :: r, hn =>
      obtain ⟨⟨k, i⟩, c⟩ := p
      have h1 := h.held k i
      have h2 : lkp (k, i) (((k, i), c) :: r) = some c := by simp [lkp]
      rw [h2] at h1
      exact absurd h1 (h.nonz _ _ h2)

/-! ### Who may take what -/
/-- Nobody else's lock of L is in the way of a role, for worker j. -/
def freeFor (L : List Lk) (r : Role) (j : Nat) : Prop := ∀ x ∈ L, x.1 = r.k → x.2.2.val ≠ j → ¬ (x.2.1 = true ∨ r.w = true)
theorem bitsOf_mem {n x i : Nat} : i ∈ bitsOf n x ↔ i < n ∧ x.testBit i = true := by simp [bitsOf]
theorem bitsOf_nodup (n x : Nat) : (bitsOf n x).Nodup := List.nodup_range.sublist List.filter_sublist
theorem aloneN_testBit (a s : Nat) (ha : a < 2 ^ 64) (hs : s < 2 ^ 64) (j : Nat) : (aloneN a s).testBit j = true ↔ a.testBit j = true ∧ ∀ i, s.testBit i = true → i = j := by
  have hmem : ∀ i, s.testBit i = true ↔ i ∈ bitsOf 64 s := fun i => by
    rw [bitsOf_mem]
    constructor
    · intro h
      refine ⟨?_, h⟩
      rcases Nat.lt_or_ge i 64 with h' | h'
      · exact h'
      · rw [Nat.testBit_lt_two_pow (Nat.lt_of_lt_of_le hs (Nat.pow_le_pow_right (by omega) h'))] at h
        cases h
    · exact fun h => h.2
  have hnd := bitsOf_nodup 64 s
  unfold aloneN
  match hb : bitsOf 64 s with
  | [] =>
    simp only [List.length_nil, if_true]
    refine ⟨fun h => ⟨h, fun i hi => ?_⟩, fun h => h.1⟩
    rw [hmem, hb] at hi
    cases hi
  | [c] =>
    simp only [List.length_singleton, Nat.one_ne_zero, if_false, if_true, Nat.testBit_and, Bool.and_eq_true]
    have hc : ∀ i, s.testBit i = true ↔ i = c := fun i => by rw [hmem, hb]; simp
    constructor
    · rintro ⟨h1, h2⟩
      exact ⟨h1, fun i hi => by rw [(hc i).1 hi, (hc j).1 h2]⟩
    · rintro ⟨h1, h2⟩
      refine ⟨h1, ?_⟩
      have := h2 c ((hc c).2 rfl)
      rw [← this]
      exact (hc c).2 rfl
  | c :: c' :: r =>
    rw [if_neg (by simp), if_neg (by simp)]
    simp only [Nat.zero_testBit, Bool.false_eq_true, false_iff, not_and]
    intro _ h2
    rw [hb] at hnd
    have e1 := h2 c ((hmem c).2 (by rw [hb]; simp))
    have e2 := h2 c' ((hmem c').2 (by rw [hb]; simp))
    rw [← e2] at e1
    rw [e1] at hnd
    simp at hnd
theorem TabInv.someOf_bit {mh : List (Spot × (Int × Int))} {mw : List (Key × (Nat × Nat))} {L : List Lk} (h : TabInv mh mw L) (r : Role) (i : Nat) :
    (someOf mw r).testBit i = true ↔ ∃ x ∈ L, x.1 = r.k ∧ x.2.2.val = i ∧ (x.2.1 = true ∨ r.w = true) := by
  have key : (someOf mw r).testBit i = true ↔ ((lkp r.k mw).getD (0, 0)).2.testBit i = true ∨ (r.w = true ∧ ((lkp r.k mw).getD (0, 0)).1.testBit i = true) := by
    unfold someOf
    cases r.w <;> simp
  rw [key, h.who0, h.who1]
  constructor
  · rintro (⟨hi, hp⟩ | ⟨hw, hi, hp⟩)
    · exact ⟨_, List.count_pos_iff.1 hp, rfl, rfl, .inl rfl⟩
    · exact ⟨_, List.count_pos_iff.1 hp, rfl, rfl, .inr hw⟩
  · rintro ⟨⟨k, b, i'⟩, hx, rfl, rfl, hb⟩
    cases b with
    | true => exact .inl ⟨i'.isLt, List.count_pos_iff.2 hx⟩
    | false =>
      rcases hb with hb | hb
      · cases hb
      · exact .inr ⟨hb, i'.isLt, List.count_pos_iff.2 hx⟩
theorem someOf_lt {mh : List (Spot × (Int × Int))} {mw : List (Key × (Nat × Nat))} {L : List Lk} (h : TabInv mh mw L) (r : Role) : someOf mw r < 2 ^ 64 :=
  lt_of_bits fun j hj => by
    obtain ⟨x, _, _, rfl, _⟩ := (h.someOf_bit r j).1 hj
    exact x.2.2.isLt
theorem maskN_testBit (n : Nat) (hn : n ≤ 64) (j : Nat) : (maskN n).testBit j = decide (j < n) := by
  have : maskN n = 2 ^ n - 1 := by
    unfold maskN
    rw [show 18446744073709551615 = 2 ^ 64 - 1 by rfl]
    have h1 : (2 : Nat) ^ 64 = 2 ^ n * 2 ^ (64 - n) := by rw [← Nat.pow_add]; congr 1; omega
    have h2 : 0 < 2 ^ (64 - n) := Nat.two_pow_pos _
    have h3 : 0 < 2 ^ n := Nat.two_pow_pos _
    rw [h1]
    have h4 : 2 ^ n * 2 ^ (64 - n) - 1 = (2 ^ (64 - n) - 1) + 2 ^ (64 - n) * (2 ^ n - 1) := by
      rw [Nat.mul_sub, Nat.mul_one, Nat.mul_comm]
      have : 2 ^ (64 - n) ≤ 2 ^ (64 - n) * 2 ^ n := Nat.le_mul_of_pos_right _ h3
      omega
    rw [h4, Nat.add_mul_div_left _ _ h2, Nat.div_eq_of_lt (by omega)]
    omega
  rw [this, Nat.testBit_two_pow_sub_one]
theorem foldl_alone_bit {mh : List (Spot × (Int × Int))} {mw : List (Key × (Nat × Nat))} {L : List Lk} (h : TabInv mh mw L) (j : Nat) : ∀ (l : List Role) (a : Nat), a < 2 ^ 64 →
    ((l.foldl (fun all r => aloneN all (someOf mw r)) a).testBit j = true ↔ a.testBit j = true ∧ ∀ r ∈ l, freeFor L r j)
  | [], a, _ => by simp
  | r :: l, a, ha => by
    have ha' : aloneN a (someOf mw r) < 2 ^ 64 := Nat.lt_of_le_of_lt (aloneN_le _ _) ha
    rw [List.foldl_cons, foldl_alone_bit h j l _ ha', aloneN_testBit _ _ ha (someOf_lt h r)]
    have key : (∀ i, (someOf mw r).testBit i = true → i = j) ↔ freeFor L r j := by
      constructor
      · intro hh x hx hk hne hb
        exact hne (hh _ ((h.someOf_bit r _).2 ⟨x, hx, hk, rfl, hb⟩))
      · intro hh i hi
        obtain ⟨x, hx, hk, rfl, hb⟩ := (h.someOf_bit r i).1 hi
        by_cases hij : x.2.2.val = j
        · exact hij
        · exact absurd hb (hh x hx hk hij)
    rw [key]
    simp [and_assoc]
/-- **Threads: bit j.** -/
theorem thrN_testBit {mh : List (Spot × (Int × Int))} {mw : List (Key × (Nat × Nat))} {L : List Lk} (h : TabInv mh mw L) (n : Nat) (hn : n ≤ 64) (l : List Role) (j : Nat) :
    (thrN mw n l).testBit j = true ↔ j < n ∧ ∀ r ∈ l, freeFor L r j := by
  unfold thrN
  rw [foldl_alone_bit h j l _ (by have := maskN_lt n; simpa using this), maskN_testBit n hn]
  simp
end Go.Proofs.Ytleenmldlbccmaa
