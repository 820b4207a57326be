/- Ranging over a map that stays: the entries come one by one, in whatever order. -/
import Derived.Test.YtofpnmoeimjnnaaLib
import Derived.Maps.RangeRun
import Derived.Test.YtofpnmoeimjnnaaReg
namespace Go.Proofs.Ytofpnmoeimjnnaa
open Go.ChangeMaps (setBlock)
set_option linter.unusedVariables false
set_option linter.unusedSimpArgs false
set_option linter.unusedSectionVars false
section
variable {κ ν : Type} {P : Program} {f : κ → Value} {g : ν → Value}
/-- An iterator in block r over the map in block b: 'rem' is still to come. -/
def IterAt (w : World) (r b : Nat) (f : κ → Value) (g : ν → Value) (es : Array MapEntry) (clock : Nat) (rem : List (κ × ν)) : Prop :=
  ∃ since seen c0, w.heap[r]? = some (.mapIter (some b) since seen c0) ∧ since ≤ c0 ∧ (∀ x ∈ es.toList, x.born < since) ∧ since ≤ clock ∧
    (leftOf es seen).toList.map (fun e => (e.key, e.val)) = rem.map (fun p => (f p.1, g p.2))
theorem IterAt.mod {w w' : World} {r b : Nat} {es : Array MapEntry} {clock : Nat} {rem : List (κ × ν)} {S : Nat → Prop} (h : IterAt w r b f g es clock rem) (hm : Mod S w w') (hr : ¬ S r) : IterAt w' r b f g es clock rem := by
  obtain ⟨since, seen, c0, h1, h2, h3, h4, h5⟩ := h
  exact ⟨since, seen, c0, hm.at h1 hr, h2, h3, h4, h5⟩
theorem IterAt.start {w : World} {r b : Nat} {es : Array MapEntry} {clock : Nat} {m : List (κ × ν)} (M : MapIs f g es clock m) (hr : w.heap[r]? = some (.mapIter (some b) clock #[] clock)) : IterAt w r b f g es clock m := by
  refine ⟨clock, #[], clock, hr, Nat.le_refl _, M.lt, Nat.le_refl _, ?_⟩
  rw [← M.ents]
  congr 1
  unfold leftOf
  simp
theorem map_erase_at {α β γ : Type} [DecidableEq γ] {l : List α} {rem : List β} {F : α → γ} {G : β → γ} {j : Nat} (h : l.map F = rem.map G) : (l.eraseIdx j).map F = (rem.eraseIdx j).map G := by
  rw [ChangeMaps.map_eraseIdx, ChangeMaps.map_eraseIdx, h]
theorem filter_ne_eraseIdx {l : List MapEntry} (hn : (l.map (·.born)).Nodup) {j : Nat} {e : MapEntry} (he : l[j]? = some e) : l.filter (fun x => !(x.born == e.born)) = l.eraseIdx j := by
  induction l generalizing j with
  | nil => simp at he
  | cons x r ih =>
    simp only [List.map_cons, List.nodup_cons] at hn
    cases j with
    | zero =>
      simp at he
      subst he
      simp only [List.filter_cons, beq_self_eq_true, Bool.not_true, Bool.false_eq_true, if_false, List.eraseIdx_cons_zero]
      rw [List.filter_eq_self]
      intro y hy
      have : y.born ≠ x.born := fun hh => hn.1 (hh ▸ List.mem_map.2 ⟨y, hy, rfl⟩)
      simp [this]
    | succ j =>
      simp only [List.getElem?_cons_succ] at he
      have : x.born ≠ e.born := fun hh => hn.1 (hh ▸ List.mem_map.2 ⟨e, List.mem_of_getElem? he, rfl⟩)
      simp [List.filter_cons, this, ih hn.2 he]
theorem left_push {es : Array MapEntry} {seen : Array Nat} {e : MapEntry} (hn : (es.toList.map (·.born)).Nodup) {j : Nat} (he : (leftOf es seen).toList[j]? = some e) : (leftOf es (seen.push e.born)).toList = (leftOf es seen).toList.eraseIdx j := by
  have hn' : ((leftOf es seen).toList.map (·.born)).Nodup := by
    unfold leftOf
    rw [Array.toList_filter]
    exact hn.sublist (List.filter_sublist.map _)
  rw [← filter_ne_eraseIdx hn' he]
  unfold leftOf
  rw [Array.toList_filter, Array.toList_filter, List.filter_filter]
  apply List.filter_congr
  intro x _
  simp [Array.contains_push]
  by_cases h : x.born = e.born <;> simp [h]

theorem erase_perm {α : Type} : ∀ (l : List α) (j : Nat) (h : j < l.length), l.Perm (l[j] :: l.eraseIdx j)
  | x :: r, 0, _ => List.Perm.refl _
  | x :: r, j + 1, h => by
    have hj : j < r.length := by simpa using h
    have := erase_perm r j hj
    simp only [List.getElem_cons_succ, List.eraseIdx_cons_succ]
    exact (this.cons x).trans (List.Perm.swap _ _ _)
/-- **The step.** -/
theorem IterAt.next {w : World} {r b : Nat} {es : Array MapEntry} {clock : Nat} {m rem : List (κ × ν)} (h : IterAt w r b f g es clock rem) (M : MapIs f g es clock m) (hb : w.heap[b]? = some (.map es clock)) (ty : TypeId) :
    (rem = [] ∧ (Instr.next (.pointer (some ⟨r, 0, none⟩)) false ty).run P w = .ok (.tuple #[.bool false]) w) ∨
    ∃ p rem' w1 it, rem.Perm (p :: rem') ∧ (Instr.next (.pointer (some ⟨r, 0, none⟩)) false ty).run P w = .ok (.tuple #[.bool true, f p.1, g p.2]) w1 ∧ w1.heap[r]? = some it ∧ Mod (fun i => i = r) w w1 ∧ w1.heap[b]? = some (.map es clock) ∧
      ∀ w2 : World, w2.heap[r]? = some it → w2.heap[b]? = some (.map es clock) → (Instr.entry (.pointer (some ⟨r, 0, none⟩))).run P w2 = .ok (.tuple #[f p.1, g p.2]) w2 ∧ IterAt w2 r b f g es clock rem' := by
  obtain ⟨since, seen, c0, h1, h2, h3, h4, h5⟩ := h
  have hrb : r ≠ b := ne_of_obj h1 hb (by simp)
  rcases run_next_at (P := P) w ty r b since c0 seen es clock h1 hb h3 h2 with ⟨hz, hrun⟩ | ⟨e, he, w1, hw1, hrun⟩
  · left
    refine ⟨?_, hrun⟩
    have := congrArg List.length h5
    simp only [List.length_map, Array.length_toList, hz] at this
    exact List.length_eq_zero_iff.1 this.symm
  · right
    obtain ⟨j, hj⟩ := List.mem_iff_getElem?.1 he
    have h6 := congrArg (fun l => l[j]?) h5
    simp only [List.getElem?_map, hj, Option.map_some] at h6
    cases hp : rem[j]? with
    | none => simp [hp] at h6
    | some p =>
      simp only [hp, Option.map_some, Option.some.injEq, Prod.mk.injEq] at h6
      obtain ⟨hk, hv⟩ := h6
      have hperm : rem.Perm (p :: rem.eraseIdx j) := by
        obtain ⟨hlt, rfl⟩ := List.getElem?_eq_some_iff.1 hp
        exact erase_perm rem j hlt
      have hm1 : Mod (fun _ => False) w w1 := by
        rcases hw1 with rfl | rfl
        · exact Mod.refl _ _
        · exact (Mod.refl _ _).drew
      have h1' := hm1.at0 h1
      have hb' := hm1.at0 hb
      have hes : e ∈ es.toList := by
        unfold leftOf at he
        simp at he
        simpa using he.1
      refine ⟨p, rem.eraseIdx j, _, _, hperm, by rw [hrun, hk, hv], heap_setBlock w1 _ (lt_size h1'), ?_, by rw [heap_setBlock_ne _ _ (Ne.symm hrb)]; exact hb', fun w2 hr2 hb2 => ⟨?_, ?_⟩⟩
      · exact (hm1.mono (fun _ _ h => h.elim)).trans (mod_set w1 r _)
      · rw [run_entry_at w2 r b since seen es clock e hr2 hb2 hes M.apart, hk, hv]
      · refine ⟨since, seen.push e.born, clock, hr2, h4, h3, h4, ?_⟩
        rw [left_push M.apart hj, ChangeMaps.map_eraseIdx, ChangeMaps.map_eraseIdx, h5]
/-- How many are still to come. -/
def leftN (w : World) (r b : Nat) : Nat := match w.heap[r]?, w.heap[b]? with
  | some (.mapIter _ _ seen _), some (.map es _) => (leftOf es seen).size
  | _, _ => 0
theorem IterAt.leftN {w : World} {r b : Nat} {es : Array MapEntry} {clock : Nat} {rem : List (κ × ν)} (h : IterAt w r b f g es clock rem) (hb : w.heap[b]? = some (.map es clock)) : leftN w r b = rem.length := by
  obtain ⟨since, seen, c0, h1, h2, h3, h4, h5⟩ := h
  unfold Go.Proofs.Ytofpnmoeimjnnaa.leftN
  rw [h1, hb]
  have := congrArg List.length h5
  simpa using this
end
end Go.Proofs.Ytofpnmoeimjnnaa
