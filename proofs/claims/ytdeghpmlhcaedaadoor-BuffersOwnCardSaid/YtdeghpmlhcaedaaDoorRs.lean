/- slices.SortFunc, slices.SortedFunc at pointers of nodes. -/
import Derived.Shelf.SlSortCmp.Whole1
import Derived.Test.YtdeghpmlhcaedaaDoorRv
import Derived.Test.YtdeghpmlhcaedaaDoorRs1
import Derived.Test.YtdeghpmlhcaedaaDoorSortLayN
namespace Go.Proofs.YtdeghpmlhcaedaaDoor
open Go.RowKit Go.Sort Go.Shelf
set_option linter.unusedSimpArgs false
set_option linter.unusedVariables false
theorem sortWorld_heap {α : Type} [Inhabited α] (enc : α → Value) {w : World} {g n : Nat} {d : Array α} {os : Array Obj} {cur : Array Value} {T : TypeId} {fr : Nat × Nat} (hg : w.heap[g]? = some (.cells cur T fr)) :
    (sortWorld enc w g 0 n d os).heap[g]? = some (.cells (putCells enc 0 d cur) T fr) ∧ Mod (fun i => i = g) w (sortWorld enc w g 0 n d os) := by
  have hlt := lt_size hg
  have hheap : (sortWorld enc w g 0 n d os).heap = w.heap.modify g (onCells (putCells enc 0 d)) ++ os := rfl
  refine ⟨?_, rfl, rfl, rfl, ?_, fun i hi hne => ?_⟩
  · rw [hheap, Array.getElem?_append_left (by simpa using hlt), Array.getElem?_modify, if_pos rfl, hg]
    rfl
  · rw [hheap]
    simp
  · rw [hheap, Array.getElem?_append_left (by simpa using hi), Array.getElem?_modify, if_neg (fun e => hne e.symm)]
/-- Neither goes behind an earlier one. -/
def Falling (nd : Nat → Nd) (ys : List Nat) : Prop := ∀ (i j a b : Nat), i < j → ys[i]? = some a → ys[j]? = some b → nlt (nd b) (nd a) = false
theorem nlt_trans {a b c : Nd} (h1 : nlt a b = true) (h2 : nlt b c = true) : nlt a c = true := by
  cases h : nlt a c
  · exact absurd h1 (by rw [nlt_negtrans h (nlt_asymm h2)]; decide)
  · rfl
theorem ncmp_lt (x y : Nd) : decide (ncmp x y < 0) = nlt x y := by
  unfold ncmp
  cases nlt x y <;> rfl
theorem swoN {α : Type} (f : α → Nd) : SWO (ltOf (fun x y : α => ncmp (f x) (f y))) where
  irrefl x := by show decide (ncmp _ _ < 0) = false; rw [ncmp_lt]; exact nlt_irrefl _
  trans x y z h1 h2 := by
    change decide (ncmp _ _ < 0) = true at h1 h2 ⊢
    rw [ncmp_lt] at *
    exact nlt_trans h1 h2
  ntrans x y z h1 h2 := by
    change decide (ncmp _ _ < 0) = false at h1 h2 ⊢
    rw [ncmp_lt] at *
    exact nlt_negtrans h1 h2
theorem sortPtrs {w : World} {base : Nat} {v : Value} {zs : List Nat} {nd : Nat → Nd} (hown : SlOwn pc 1 117 w base v zs) (hz : zs.length ≤ 900000) (hd : ∀ b ∈ zs, ∃ i o, w.heap[b]? = some (.cells (ndc false (nd b) i o) 131 (0, 0))) :
    Calls Tryd.prog 78 #[v, .func (.func 61) #[] #[]] w fun e w' => e = .returned (.tuple #[]) ∧ ∃ ys, ys.Perm zs ∧ Falling nd ys ∧ SlOwn pc 1 117 w' base v ys ∧ Mod (fun i => v.ownBlock = some i) w w' := by
  by_cases hL : zs = []
  · subst hL
    obtain ⟨a, c, rfl, _⟩ := hown.at ptrT
    refine (sort_1 (.bool true) _ a 0 c (by omega) w).mono ?_
    rintro e w' ⟨rfl, rfl⟩
    exact ⟨rfl, [], .refl _, fun i j a b _ h => (by cases h), hown, Mod.refl _ _⟩
  · obtain ⟨g, cap, cur, rfl, _, kg, hcap, hcs, hcur, hback⟩ := own_row hown hL
    obtain ⟨z0, hz0⟩ := List.exists_mem_of_ne_nil zs hL
    let α := { b : Nat // b ∈ zs }
    haveI : Inhabited α := ⟨⟨z0, hz0⟩⟩
    let enc : α → Value := fun x => ptrV x.1
    let d : Array α := zs.attach.toArray
    have hds : d.size = zs.length := by show zs.attach.toArray.size = _; rw [List.size_toArray, List.length_attach]
    have hdl : ∀ i (hi : i < d.size), (d[i]!).1 = zs[i]'(by omega) := fun i hi => by
      rw [getElem!_pos d i hi]
      show (zs.attach.toArray[i]'(hi)).1 = _
      rw [List.getElem_toArray]
      exact congrArg Subtype.val (List.getElem_attach _)
    have hH : Holds enc w g 0 d := fun j hj => by
      rw [Nat.zero_add, cell_blk, frozen_blk, kg]
      refine ⟨?_, by simp⟩
      show cur[j]? = some (ptrV (d[j]!).1)
      rw [hdl j hj]
      exact hcur j _ (List.getElem?_eq_getElem (by omega))
    have eg : ∀ args w, (callFunc 61 args).run Tryd.prog w = .ok (.enter 61 args) w := enters_of Tryd.func61 (by kernel_rfl) rfl
    have hcall := Any.slices_SortFunc Tryd.sortN enc (fun _ => rfl) (fun x y : α => ncmp (nd x.1) (nd y.1)) (swoN (fun x : α => nd x.1)) 61 #[] g 0 cap d w eg (fun m os dk hs x y => by
      have hm := (sortWorld_heap (d := dk) (n := m) (os := os) enc kg).2
      obtain ⟨i, o, kx⟩ := hd x.1 x.2
      obtain ⟨i', o', ky⟩ := hd y.1 y.2
      exact cmpN_c x.1 y.1 false (nd x.1) (nd y.1) i o i' o' _ (hm.at kx (ne_of_obj kx kg (obj_ty (by decide)))) (hm.at ky (ne_of_obj ky kg (obj_ty (by decide))))) hH (lt_size kg) (by omega)
    rw [hds] at hcall
    refine Calls.mono hcall ?_
    rintro e w' ⟨rfl, d', n, os, hperm, hsort, rfl⟩
    have hsz : d'.size = zs.length := hperm.1.trans hds
    obtain ⟨k1, m1⟩ := sortWorld_heap (d := d') (n := n) (os := os) enc kg
    have hpl : d'.toList.Perm zs.attach := by
      have h := hperm.2.2
      have e1 : d'.extract 0 zs.length = d' := by rw [← hsz]; simp
      have e2 : d.extract 0 zs.length = d := by rw [← hds]; simp
      rw [e1, e2] at h
      simpa [d] using h
    have hys : (d'.toList.map Subtype.val).Perm zs := by
      have := hpl.map Subtype.val
      rwa [List.attach_map_subtype_val] at this
    have hget : ∀ i a, (d'.toList.map Subtype.val)[i]? = some a → i < d'.size ∧ (d'[i]!).1 = a := fun i a h => by
      have hi : i < d'.size := by have := (List.getElem?_eq_some_iff.1 h).1; simpa using this
      refine ⟨hi, ?_⟩
      rw [getElem!_pos d' i hi]
      rw [List.getElem?_map] at h
      simp [hi] at h
      exact h
    refine ⟨rfl, d'.toList.map Subtype.val, hys, fun i j a b hij ha hb => ?_, hback _ _ _ k1 (by simp [putCells]) (by simp [hsz]) (fun i b h => ?_), m1.mono (fun i _ e => by rw [e]; rfl)⟩
    · obtain ⟨hi, rfl⟩ := hget i a ha
      obtain ⟨hj, rfl⟩ := hget j b hb
      have h1 := hsort i j (Nat.zero_le _) hij (by omega)
      change decide (ncmp _ _ < 0) = false at h1
      rwa [ncmp_lt] at h1
    · obtain ⟨hi, rfl⟩ := hget i b h
      have hic : i < cur.size := by omega
      simp only [putCells, Array.getElem?_mapIdx, Array.getElem?_eq_getElem hic, Option.map_some, Nat.zero_le, Nat.zero_add, true_and, Nat.sub_zero, if_pos hi]
      rfl
set_option maxHeartbeats 1000000 in
theorem sortedFunc_c (Bs : Nat) (sv : Value) (zs : List Nat) (nd : Nat → Nd) (hlen : zs.length ≤ 900000) (w : World) (hBs : Bs < w.heap.size) (hc : w.cell? ⟨Bs, 0, none⟩ = some sv) (hI : Ptrs w.heap.size w sv zs) (hd : ∀ b ∈ zs, ∃ i o, w.heap[b]? = some (.cells (ndc false (nd b) i o) 131 (0, 0))) :
    Calls Tryd.prog 59 #[.func (.func 79) #[] #[.pointer (some ⟨Bs, 0, none⟩)], .func (.func 61) #[] #[]] w fun e w' =>
      ∃ v ys, e = .returned v ∧ ys.Perm zs ∧ Falling nd ys ∧ SlOwn pc 1 117 w' w.heap.size v ys ∧ Mod (fun _ => False) w w' := by
  have hcol := collect_c Bs w.heap.size sv zs hlen w hBs (Nat.le_refl _) hc hI
  have HD := Lib.hid hd
  clear hd hc hI
  go_enter Tryd.func59, Tryd.ntmps59
  go_wp2_with fail
  go_at_call 77
  refine hcol.mono ?_
  rintro e w2 ⟨v, rfl, h1, h2, h3⟩
  have hO : SlOwn pc 1 117 w2 w.heap.size v zs := by
    unfold SlOwn
    rw [cellsOf_pc]
    exact h1
  have HX := Lib.hid (And.intro hO h3)
  clear h1 h2 h3 hcol hO
  obtain ⟨a, c, rfl, _⟩ := HX.out.1.at ptrT
  go_wp2_with fail
  go_at_call 78
  refine (sortPtrs HX.out.1 hlen (fun b hb => by
    obtain ⟨i, o, k⟩ := HD.out b hb
    exact ⟨i, o, (HX.out.2.block b (lt_size k)).trans k⟩)).mono ?_
  rintro e w3 ⟨rfl, ys, h1, h2, h3, h4⟩
  have HY := Lib.hid (And.intro h1 (And.intro h2 (And.intro h3 h4)))
  have hl := h1.length_eq
  clear h1 h2 h3 h4
  go_wp2_with fail
  go_ret
  obtain ⟨h1, h2, h3, h4⟩ := HY.out
  refine ⟨_, ys, rfl, h1, h2, h3, (Mod.of_below HX.out.2 _).then h4 (fun i hi e => ?_)⟩
  have := (HX.out.1.lt _ e).1
  omega
end Go.Proofs.YtdeghpmlhcaedaaDoor
