/- Laws over any program: a row of elements of n cells each, ahead of and behind a sort by the library. -/
import Derived.Test.YtknmiojegnbakaaGen
import Derived.Shelf.SlSortCmp.WholeK
namespace Go.Proofs.Ytknmiojegnbakaa
open Go.Sort
set_option linter.unusedVariables false
set_option linter.unusedSimpArgs false
set_option linter.unusedSectionVars false
section
variable {α : Type} [Inhabited α] {f : α → Array Value} {n : Nat}
abbrev rowOf (f : α → Array Value) : α → List Value := fun x => (f x).toList
theorem holdsK_of_row (hf : ∀ x, (f x).size = n) (hn : 0 < n) {w : World} {b o : Nat} {C : Array Value} {U : TypeId} (hb : w.heap[b]? = some (.cells C U (0, 0))) {l : List α}
    (h : ∀ i x, l[i]? = some x → C.extract (o + i * n) (o + i * n + n) = f x ∧ o + i * n + n ≤ C.size) : HoldsK (rowOf f) n w b o l.toArray := by
  intro t ht
  rw [size_flatK] at ht
  have hls : l.toArray.size = l.length := by simp
  rw [hls] at ht
  have hi : t / n < l.length := Nat.div_lt_of_lt_mul (by rw [Nat.mul_comm]; exact ht)
  obtain ⟨x, hx⟩ : ∃ x, l[t / n]? = some x := ⟨_, List.getElem?_eq_getElem hi⟩
  obtain ⟨he, hle⟩ := h _ x hx
  have hm : t % n < n := Nat.mod_lt _ hn
  have hdm : t / n * n + t % n = t := by rw [Nat.mul_comm]; exact Nat.div_add_mod t n
  have hx2 : l.toArray[t / n]! = x := by
    rw [getElem!_pos l.toArray (t / n) (by simpa using hi)]
    have := (List.getElem?_eq_some_iff.1 hx).2
    simpa using this
  have hv : (f x)[t % n]? = some ((f x).toList[t % n]!) := by
    have hs : t % n < (f x).toList.length := by rw [Array.length_toList, hf]; exact hm
    rw [getElem!_pos (f x).toList (t % n) hs, Array.getElem_toList, Array.getElem?_eq_getElem]
  refine ⟨?_, ?_⟩
  · rw [get_flatK _ _ _ _ (by rw [hls]; exact ht), hx2]
    have := cell_in hb he hv
    rw [Nat.add_assoc, hdm] at this
    exact this
  · rw [frozen_blk, hb]
    simp
theorem row_of_holdsK (hf : ∀ x, (f x).size = n) {w : World} {b o : Nat} {C : Array Value} {U : TypeId} {fr : Nat × Nat} (hb : w.heap[b]? = some (.cells C U fr)) {d : Array α} (h : HoldsK (rowOf f) n w b o d) (hn : 0 < n) :
    ∀ i x, d.toList[i]? = some x → C.extract (o + i * n) (o + i * n + n) = f x ∧ o + i * n + n ≤ C.size := by
  intro i x hx
  obtain ⟨hi, hxe⟩ := List.getElem?_eq_some_iff.1 hx
  have hi' : i < d.size := by simpa using hi
  have hxd : d[i]! = x := by
    rw [getElem!_pos d i hi']
    simpa using hxe
  have hcell : ∀ c, c < n → C[o + i * n + c]? = (f x)[c]? := fun c hc => by
    have := (HoldsK.cell h hi' hc).1
    rw [hxd, cell_blk, hb] at this
    have hs : c < (f x).toList.length := by rw [Array.length_toList, hf]; exact hc
    simp only at this
    rw [this]
    show some ((f x).toList[c]!) = _
    rw [getElem!_pos (f x).toList c hs, Array.getElem_toList, Array.getElem?_eq_getElem]
  have hsz : o + i * n + n ≤ C.size := by
    have h1 := hcell (n - 1) (by omega)
    obtain ⟨v, hv⟩ : ∃ v, (f x)[n - 1]? = some v := ⟨_, Array.getElem?_eq_getElem (by rw [hf]; omega)⟩
    rw [hv] at h1
    have := (Array.getElem?_eq_some_iff.1 h1).1
    omega
  refine ⟨?_, hsz⟩
  apply Array.ext_getElem?
  intro j
  rw [Array.getElem?_extract]
  by_cases hj : j < n
  · rw [if_pos (by omega), hcell j hj]
  · rw [if_neg (by omega), Array.getElem?_eq_none (by rw [hf]; omega)]
/-- Behind the sort: the row lies as told, nothing else that was there has changed. -/
theorem sortWorld_after (hf : ∀ x, (f x).size = n) (hn : 0 < n) {w : World} {b o : Nat} {C : Array Value} {U : TypeId} (hb : w.heap[b]? = some (.cells C U (0, 0))) {d d' : Array α} (hH : HoldsK (rowOf f) n w b o d) (hs : d'.size = d.size) (m : Nat) (os : Array Obj) :
    ∃ C', (sortWorldK (rowOf f) n w b o m d' os).heap[b]? = some (.cells C' U (0, 0)) ∧ (∀ i x, d'.toList[i]? = some x → C'.extract (o + i * n) (o + i * n + n) = f x ∧ o + i * n + n ≤ C'.size) ∧ Mod (fun i => i = b) w (sortWorldK (rowOf f) n w b o m d' os) := by
  have hlt := lt_size hb
  have hheap : (sortWorldK (rowOf f) n w b o m d' os).heap = w.heap.modify b (onCells (putCells id o (flatK (rowOf f) n d'))) ++ os := rfl
  have hbk : (sortWorldK (rowOf f) n w b o m d' os).heap[b]? = some (.cells (putCells id o (flatK (rowOf f) n d') C) U (0, 0)) := by
    rw [hheap, Array.getElem?_append_left (by simpa using hlt), Array.getElem?_modify, if_pos rfl, hb]
    rfl
  have hHd := holdsK_sortWorldK_c (rowOf f) n w b o d d' m os hH hlt hs
  refine ⟨_, hbk, row_of_holdsK hf hbk hHd hn, rfl, rfl, rfl, ?_, fun i hi hne => ?_⟩
  · rw [hheap]
    simp
  · rw [hheap, Array.getElem?_append_left (by simpa using hi), Array.getElem?_modify, if_neg (fun e => hne e.symm)]
end
end Go.Proofs.Ytknmiojegnbakaa
