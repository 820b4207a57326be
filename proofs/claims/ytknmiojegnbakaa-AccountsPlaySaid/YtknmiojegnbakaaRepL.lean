/- The plain law of AccountsPlay: the list by rising keys, and the map. -/
import Derived.Test.YtknmiojegnbakaaRefP
import Derived.Test.YtknmiojegnbakaaRefQ
namespace Go.Proofs.Ytknmiojegnbakaa
/-- L tells what the map m holds. -/
structure Rep (m : List (Key × Acct)) (L : List Hold) : Prop where
  perm : (L.map ofH).Perm m
  asc : L.Pairwise (fun x y => klt x.k y.k = true)
  nz : ∀ h ∈ L, h.a ≠ acct0
theorem Rep.nil : Rep [] [] := ⟨.refl _, .nil, fun _ h => by cases h⟩
theorem asc_nodup {L : List Hold} (h : L.Pairwise (fun x y => klt x.k y.k = true)) : (L.map Hold.k).Nodup := by
  refine List.pairwise_map.2 (h.imp ?_)
  intro x y hxy e
  rw [e, klt_irrefl] at hxy
  cases hxy
theorem Rep.keys {m : List (Key × Acct)} {L : List Hold} (h : Rep m L) : ((L.map ofH).map Prod.fst).Nodup := by
  rw [List.map_map]
  exact asc_nodup h.asc
theorem Rep.nodup {m : List (Key × Acct)} {L : List Hold} (h : Rep m L) : (m.map Prod.fst).Nodup := (h.perm.map Prod.fst).nodup_iff.1 h.keys
theorem Rep.get {m : List (Key × Acct)} {L : List Hold} (h : Rep m L) (k : Key) : getA (L.map ofH) k = getA m k := getA_perm h.perm h.nodup k
theorem Rep.coins {m : List (Key × Acct)} {L : List Hold} (h : Rep m L) : sumH L = sumC m := by
  rw [← sumC_perm h.perm]
  unfold sumH sumC
  rw [List.map_map]
  rfl
theorem Rep.len {m : List (Key × Acct)} {L : List Hold} (h : Rep m L) : L.length = m.length := by
  rw [← h.perm.length_eq, List.length_map]
theorem toH_ofH (h : Hold) : toH (ofH h) = h := rfl
theorem map_toH_ofH (L : List Hold) : (L.map ofH).map toH = L := by
  rw [List.map_map]
  have : (toH ∘ ofH) = id := by funext h; rfl
  rw [this, List.map_id]
theorem asc_eq {L M : List Hold} (hp : L.Perm M) (hL : L.Pairwise (fun x y => klt x.k y.k = true)) (hM : M.Pairwise (fun x y => klt x.k y.k = true)) : L = M :=
  List.Perm.eq_of_pairwise (fun a b _ _ h1 h2 => by
    have := klt_trans h1 h2
    rw [klt_irrefl] at this
    cases this) hL hM hp
theorem Rep.same {m n : List (Key × Acct)} {L M : List Hold} (h : Rep m L) (k : Rep n M) : sameB m n = decide (L = M) := by
  rw [Bool.eq_iff_iff, decide_eq_true_eq]
  constructor
  · intro hs
    have hp := perm_of_same h.nodup hs
    have h1 := ((h.perm.trans hp).trans k.perm.symm).map toH
    rw [map_toH_ofH, map_toH_ofH] at h1
    exact asc_eq h1 h.asc k.asc
  · rintro rfl
    exact same_perm (h.perm.symm.trans k.perm) h.nodup
theorem rising_asc {l : List Hold} (hr : Rising l) (hn : (l.map Hold.k).Nodup) : l.Pairwise (fun x y => klt x.k y.k = true) := by
  rw [List.pairwise_iff_getElem]
  intro i j hi hj hij
  have hx : l[i]? = some l[i] := List.getElem?_eq_getElem hi
  have hy : l[j]? = some l[j] := List.getElem?_eq_getElem hj
  have h1 := hr i j _ _ hij hx hy
  rcases klt_total l[i].k l[j].k with h | h | h
  · exact h
  · exfalso
    have hi' : i < (l.map Hold.k).length := by simpa using hi
    have hj' : j < (l.map Hold.k).length := by simpa using hj
    exact List.pairwise_iff_getElem.1 hn i j hi' hj' hij (by simpa using h)
  · rw [h] at h1; cases h1
theorem Rep.list {m : List (Key × Acct)} {L l : List Hold} (h : Rep m L) (hp : l.Perm (m.map toH)) (hr : Rising l) : l = L := by
  have h1 := h.perm.map toH
  rw [map_toH_ofH] at h1
  exact asc_eq (hp.trans h1.symm) (rising_asc hr (holds_nodup hp h.nodup)) h.asc
theorem rputL_true (k : Key) (a : Acct) : ∀ L : List Hold, rputL k a true L = L.filter (fun h => decide (h.k ≠ k))
  | [] => rfl
  | h :: r => by
    simp only [rputL, Bool.not_true, Bool.false_and, Bool.true_or, rputL_true k a r]
    by_cases hk : h.k = k <;> simp [hk]
theorem filter_all {L : List Hold} {p : Hold → Bool} (h : ∀ x ∈ L, p x = true) : L.filter p = L := List.filter_eq_self.2 h
theorem filter_none {L : List Hold} {p : Hold → Bool} (h : ∀ x ∈ L, p x = false) : L.filter p = [] := by
  rw [List.filter_eq_nil_iff]
  intro x hx e
  rw [h x hx] at e
  cases e
theorem klt_asymm {a b : Key} (h : klt a b = true) : klt b a = false := by
  rw [Bool.eq_false_iff]
  intro k
  have := klt_trans h k
  rw [klt_irrefl] at this
  cases this
theorem klt_ne {a b : Key} (h : klt a b = true) : b ≠ a := fun e => by
  rw [e, klt_irrefl] at h
  cases h
theorem rputL_false (k : Key) (a : Acct) : ∀ L : List Hold, L.Pairwise (fun x y => klt x.k y.k = true) → rputL k a false L = L.filter (fun h => klt h.k k) ++ ([(⟨k, a⟩ : Hold)] ++ L.filter (fun h => klt k h.k))
  | [], _ => rfl
  | h :: r, hL => by
    rw [List.pairwise_cons] at hL
    obtain ⟨h1, h2⟩ := hL
    have ih := rputL_false k a r h2
    rcases klt_total k h.k with hk | hk | hk
    · have hg : ∀ x ∈ r, klt k x.k = true := fun x hx => klt_trans hk (h1 x hx)
      have hne : ¬ h.k = k := klt_ne hk
      simp only [rputL, Bool.not_false, Bool.true_and, Bool.false_or, hk, if_true, if_neg hne, rputL_true]
      rw [filter_all (fun x hx => by simpa using klt_ne (hg x hx)), List.filter_cons, klt_asymm hk, List.filter_cons, hk, filter_none (p := fun x : Hold => klt x.k k) (fun x hx => klt_asymm (hg x hx)), filter_all (p := fun x : Hold => klt k x.k) hg]
      rfl
    · subst hk
      simp only [rputL, Bool.not_false, Bool.true_and, Bool.false_or, klt_irrefl, if_true, ih]
      rw [List.filter_cons, klt_irrefl, List.filter_cons, klt_irrefl]
      rfl
    · have hne : ¬ h.k = k := fun e => klt_ne hk e.symm
      simp only [rputL, Bool.not_false, Bool.true_and, Bool.false_or, klt_asymm hk, if_neg hne, ih]
      rw [List.filter_cons, hk, List.filter_cons, klt_asymm hk]
      rfl
theorem mem_putA {m : List (Key × Acct)} (hn : (m.map Prod.fst).Nodup) (k : Key) (a : Acct) (p : Key × Acct) : p ∈ putA m k a ↔ (p.1 ≠ k ∧ p ∈ m) ∨ (a ≠ acct0 ∧ p = (k, a)) := by
  obtain ⟨j, b⟩ := p
  have h1 : (j, b) ∈ putA m k a ↔ lkp j (putA m k a) = some b := ⟨fun h => lkp_of_mem (nodup_putA hn k a) h, lkp_mem⟩
  have h2 : (j, b) ∈ m ↔ lkp j m = some b := ⟨fun h => lkp_of_mem hn h, lkp_mem⟩
  rw [h1, h2]
  unfold putA
  by_cases ha : a = acct0
  · rw [if_pos ha, lkp_del hn]
    by_cases hj : j = k
    · simp [hj, ha]
    · simp [hj, ha]
  · rw [if_neg ha, lkp_put]
    by_cases hj : j = k
    · simp only [hj, if_true, Option.some.injEq, ne_eq, not_true_eq_false, false_and, false_or, ha, not_false_eq_true, Prod.mk.injEq, true_and]
      exact eq_comm
    · simp [hj]
theorem ofH_eq {x : Hold} {p : Key × Acct} : ofH x = p ↔ x = toH p := ⟨fun h => by rw [← h]; rfl, fun h => by rw [h]; rfl⟩
theorem perm_mem {m n : List (Key × Acct)} (hm : (m.map Prod.fst).Nodup) (hn : (n.map Prod.fst).Nodup) (h : ∀ p, p ∈ m ↔ p ∈ n) : m.Perm n :=
  (List.perm_ext_iff_of_nodup (nodup_of_keys hm) (nodup_of_keys hn)).2 h
theorem Rep.put {m : List (Key × Acct)} {L : List Hold} (h : Rep m L) (k : Key) (a : Acct) : Rep (putA m k a) (rputL k a (decide (a = acct0)) L) := by
  have hmem : ∀ x : Hold, x ∈ L ↔ ofH x ∈ m := fun x => by
    rw [← h.perm.mem_iff, List.mem_map]
    exact ⟨fun hx => ⟨x, hx, rfl⟩, fun ⟨y, hy, e⟩ => by
      have : y = x := congrArg toH e
      rwa [← this]⟩
  by_cases ha : a = acct0
  · rw [decide_eq_true ha, rputL_true]
    have hasc : (L.filter (fun h => decide (h.k ≠ k))).Pairwise (fun x y => klt x.k y.k = true) := h.asc.sublist List.filter_sublist
    refine ⟨?_, hasc, fun x hx => h.nz x (List.mem_filter.1 hx).1⟩
    refine perm_mem (by rw [List.map_map]; exact asc_nodup hasc) (nodup_putA h.nodup k a) fun p => ?_
    rw [mem_putA h.nodup, List.mem_map]
    constructor
    · rintro ⟨x, hx, rfl⟩
      rw [List.mem_filter, decide_eq_true_eq] at hx
      exact .inl ⟨hx.2, (hmem x).1 hx.1⟩
    · rintro (⟨h1, h2⟩ | ⟨h1, _⟩)
      · refine ⟨toH p, ?_, rfl⟩
        rw [List.mem_filter, decide_eq_true_eq]
        exact ⟨(hmem _).2 h2, h1⟩
      · exact absurd ha h1
  · rw [decide_eq_false ha, rputL_false k a L h.asc]
    have hasc : (L.filter (fun h => klt h.k k) ++ ([(⟨k, a⟩ : Hold)] ++ L.filter (fun h => klt k h.k))).Pairwise (fun x y => klt x.k y.k = true) := by
      rw [List.pairwise_append, List.singleton_append, List.pairwise_cons]
      refine ⟨h.asc.sublist List.filter_sublist, ⟨fun x hx => (List.mem_filter.1 hx).2, h.asc.sublist List.filter_sublist⟩, fun x hx y hy => ?_⟩
      have h1 := (List.mem_filter.1 hx).2
      rcases List.mem_cons.1 hy with rfl | hy
      · exact h1
      · exact klt_trans h1 (List.mem_filter.1 hy).2
    refine ⟨?_, hasc, fun x hx => ?_⟩
    · refine perm_mem (by rw [List.map_map]; exact asc_nodup hasc) (nodup_putA h.nodup k a) fun p => ?_
      rw [mem_putA h.nodup, List.mem_map]
      constructor
      · rintro ⟨x, hx, rfl⟩
        rcases List.mem_append.1 hx with hx | hx
        · obtain ⟨h1, h2⟩ := List.mem_filter.1 hx
          exact .inl ⟨fun e => klt_ne h2 e.symm, (hmem x).1 h1⟩
        · rcases List.mem_append.1 hx with hx | hx
          · obtain rfl := List.mem_singleton.1 hx
            exact .inr ⟨ha, rfl⟩
          · obtain ⟨h1, h2⟩ := List.mem_filter.1 hx
            exact .inl ⟨klt_ne h2, (hmem x).1 h1⟩
      · rintro (⟨h1, h2⟩ | ⟨_, rfl⟩)
        · refine ⟨toH p, ?_, rfl⟩
          have hx := (hmem (toH p)).2 h2
          rcases klt_total p.1 k with e | e | e
          · exact List.mem_append_left _ (List.mem_filter.2 ⟨hx, e⟩)
          · exact absurd e h1
          · exact List.mem_append_right _ (List.mem_append_right _ (List.mem_filter.2 ⟨hx, e⟩))
        · exact ⟨⟨k, a⟩, List.mem_append_right _ (List.mem_append_left _ (by simp)), rfl⟩
    · rcases List.mem_append.1 hx with hx | hx
      · exact h.nz x (List.mem_filter.1 hx).1
      · rcases List.mem_append.1 hx with hx | hx
        · obtain rfl := List.mem_singleton.1 hx
          exact ha
        · exact h.nz x (List.mem_filter.1 hx).1
end Go.Proofs.Ytknmiojegnbakaa
