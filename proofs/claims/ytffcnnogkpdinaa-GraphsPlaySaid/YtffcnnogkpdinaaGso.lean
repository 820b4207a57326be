/- Graphs: sorting by when one was put. -/
import Derived.Deep.QuietTactic
import Derived.BigQuiet
import Derived.Sort.Walk0
import Derived.Sort.Grow
import Derived.Shelf.SlSortCmp.Whole1
import Derived.Test.YtffcnnogkpdinaaGv
import Derived.Test.YtffcnnogkpdinaaGo1
import Derived.Test.YtffcnnogkpdinaaSortLayN
namespace Go.Proofs.Ytffcnnogkpdinaa
open Go.RowKit Go.Sort Go.Shelf
set_option linter.unusedSimpArgs false
set_option linter.unusedVariables false
attribute [local go_sem] cell_blk frozen_blk one_int one_bool one_ptr one_slice one_map Value.cells
def pcmp (a b : Nat) : Int := if a < b then -1 else if b < a then 1 else 0
theorem pcmp_lt (x y : Nat) : decide (pcmp x y < 0) = decide (x < y) := by
  unfold pcmp
  by_cases h : x < y
  · simp [h]
  · by_cases h2 : y < x <;> simp [h, h2]
theorem swoP {α : Type} (f : α → Nat) : SWO (ltOf (fun x y : α => pcmp (f x) (f y))) where
  irrefl x := by show decide (pcmp _ _ < 0) = false; rw [pcmp_lt]; simp
  trans x y z h1 h2 := by
    change decide (pcmp _ _ < 0) = true at h1 h2 ⊢
    rw [pcmp_lt] at *
    simp at *
    omega
  ntrans x y z h1 h2 := by
    change decide (pcmp _ _ < 0) = false at h1 h2 ⊢
    rw [pcmp_lt] at *
    simp at *
    omega
theorem isNaN_c (a : Nat) (w : World) : Calls Try.prog 39 #[.int .i64 (a : Int)] w fun e w' => e = .returned (.bool false) ∧ w' = w := by
  go_enter Try.func39, Try.ntmps39
  go_wp2_with fail
  go_ret
  exact ⟨by first | rfl | simp, rfl⟩
theorem compare_c (a b : Nat) (w : World) : Calls Try.prog 28 #[.int .i64 (a : Int), .int .i64 (b : Int)] w fun e w' => e = .returned (.int .i64 (pcmp a b)) ∧ w' = w := by
  have HP : Hid (pcmp a b = if a < b then -1 else if b < a then 1 else 0) := Lib.hid rfl
  go_enter Try.func28, Try.ntmps28
  go_wp2_with fail
  go_at_call 39
  refine (isNaN_c a w).mono ?_
  rintro e w2 ⟨rfl, rfl⟩
  go_wp2_with fail
  go_at_call 39
  refine (isNaN_c b _).mono ?_
  rintro e w2 ⟨rfl, rfl⟩
  by_cases h1 : a < b
  · have hd := decide_eq_true h1
    have H1 := Lib.hid h1
    clear h1
    go_wp2_with fail
    go_ret
    exact ⟨by rw [HP.out, if_pos H1.out]; rfl, rfl⟩
  · have hd := decide_eq_false h1
    have H1 := Lib.hid h1
    clear h1
    by_cases h2 : b < a
    · have hd2 := decide_eq_true h2
      have H2 := Lib.hid h2
      clear h2
      go_wp2_with fail
      go_ret
      exact ⟨by rw [HP.out, if_neg H1.out, if_pos H2.out]; rfl, rfl⟩
    · have hd2 := decide_eq_false h2
      have H2 := Lib.hid h2
      clear h2
      go_wp2_with fail
      go_ret
      exact ⟨by rw [HP.out, if_neg H1.out, if_neg H2.out]; rfl, rfl⟩
theorem ready1_c (a b : Nat) (x y : Nr) (w : World) (ka : w.heap[a]? = some (.cells (nrc x) 66 (0, 0))) (kb : w.heap[b]? = some (.cells (nrc y) 66 (0, 0))) :
    Calls Try.prog 27 #[ptrV a, ptrV b] w fun e w' => e = .returned (.int .i64 (pcmp x.pt y.pt)) ∧ ∃ q os, w' = grow (w.drewN q) os := by
  have hc : ∀ m, Calls Try.prog 28 #[.int .i64 (x.pt : Int), .int .i64 (y.pt : Int)] (w.drewN m) fun e w' => e = .returned (.int .i64 (pcmp x.pt y.pt)) ∧ w' = w.drewN m := fun m => compare_c x.pt y.pt _
  have HC := Lib.hid hc
  clear hc
  go_enter Try.func27, Try.ntmps27
  go_upto_region 1 with fail
  go_quiet ((go_at_call 28; exact Calls.quiet_of_same (HC.out _)))
  go_wp2_with fail
  go_ret
  exact ⟨rfl, nq, #[], by simp [grow, World.drewN]⟩
/-- By rising numbers. -/
def Rising (pt : Nat → Nat) (ys : List Nat) : Prop := ∀ (i j a b : Nat), i < j → ys[i]? = some a → ys[j]? = some b → ¬ pt b < pt a
theorem sortWorld_heap {α : Type} [Inhabited α] (enc : α → Value) {w : World} {g n : Nat} {d : Array α} {os : Array Obj} {cur : Array Value} {T : TypeId} {fr : Nat × Nat} (hg : w.heap[g]? = some (.cells cur T fr)) :
    (sortWorld enc w g 0 n d os).heap[g]? = some (.cells (putCells enc 0 d cur) T fr) ∧ Mod (fun i => i = g) w (sortWorld enc w g 0 n d os) := by
  have hlt := lt_size hg
  have hheap : (sortWorld enc w g 0 n d os).heap = w.heap.modify g (onCells (putCells enc 0 d)) ++ os := rfl
  refine ⟨?_, rfl, rfl, rfl, ?_, fun i hi hne => ?_⟩
  · rw [hheap, Array.getElem?_append_left (by simpa using hlt), Array.getElem?_modify, if_pos rfl, hg]
    rfl
  · rw [hheap]
    simp
  · rw [hheap, Array.getElem?_append_left (by simpa using hi), Array.getElem?_modify, if_neg (fun e => hne e.symm)]
theorem sortPtrs {w : World} {base : Nat} {v : Value} {zs : List Nat} {pt : Nat → Nat} (hown : SlOwn pc 1 62 w base v zs) (hz : zs.length ≤ 900000) (hd : ∀ b ∈ zs, ∃ x : Nr, w.heap[b]? = some (.cells (nrc x) 66 (0, 0)) ∧ x.pt = pt b) :
    Calls Try.prog 37 #[v, .func (.func 27) #[] #[]] w fun e w' => e = .returned (.tuple #[]) ∧ ∃ ys, ys.Perm zs ∧ Rising pt ys ∧ SlOwn pc 1 62 w' base v ys ∧ Mod (fun i => v.ownBlock = some i) w w' := by
  by_cases hL : zs = []
  · subst hL
    obtain ⟨a, c, rfl, _⟩ := hown.at ptrT
    refine (sort_1 (.bool true) _ a 0 c (by omega) w).mono ?_
    rintro e w' ⟨rfl, rfl⟩
    exact ⟨rfl, [], .refl _, fun i j a b _ h => (by cases h), hown, Mod.refl _ _⟩
  · obtain ⟨g, cap, cur, rfl, _, kg, hcap, hcs, hcur, hback⟩ := own_row hown hL
    obtain ⟨z0, hz0⟩ := List.exists_mem_of_ne_nil zs hL
    let α := { b : Nat // b ∈ zs }
    haveI : Inhabited α := ⟨⟨z0, hz0⟩⟩
    let enc : α → Value := fun x => ptrV x.1
    let d : Array α := zs.attach.toArray
    have hds : d.size = zs.length := by show zs.attach.toArray.size = _; rw [List.size_toArray, List.length_attach]
    have hdl : ∀ i (hi : i < d.size), (d[i]!).1 = zs[i]'(by omega) := fun i hi => by
      rw [getElem!_pos d i hi]
      show (zs.attach.toArray[i]'(hi)).1 = _
      rw [List.getElem_toArray]
      exact congrArg Subtype.val (List.getElem_attach _)
    have hH : Holds enc w g 0 d := fun j hj => by
      rw [Nat.zero_add, cell_blk, frozen_blk, kg]
      refine ⟨?_, by simp⟩
      show cur[j]? = some (ptrV (d[j]!).1)
      rw [hdl j hj]
      exact hcur j _ (List.getElem?_eq_getElem (by omega))
    have eg : ∀ args w, (callFunc 27 args).run Try.prog w = .ok (.enter 27 args) w := enters_of Try.func27 (by kernel_rfl) rfl
    have hcall := Any.slices_SortFunc Try.sortN enc (fun _ => rfl) (fun x y : α => pcmp (pt x.1) (pt y.1)) (swoP (fun x : α => pt x.1)) 27 #[] g 0 cap d w eg (fun m os dk hs x y => by
      have hm := (sortWorld_heap (d := dk) (n := m) (os := os) enc kg).2
      obtain ⟨xr, kx, ex⟩ := hd x.1 x.2
      obtain ⟨yr, ky, ey⟩ := hd y.1 y.2
      show Calls _ _ #[ptrV x.1, ptrV y.1] _ fun e w' => e = .returned (.int .i64 (pcmp (pt x.1) (pt y.1))) ∧ _
      rw [← ex, ← ey]
      exact ready1_c x.1 y.1 xr yr _ (hm.at kx (ne_of_obj kx kg (obj_ty (by decide)))) (hm.at ky (ne_of_obj ky kg (obj_ty (by decide))))) hH (lt_size kg) (by omega)
    rw [hds] at hcall
    refine Calls.mono hcall ?_
    rintro e w' ⟨rfl, d', n, os, hperm, hsort, rfl⟩
    have hsz : d'.size = zs.length := hperm.1.trans hds
    obtain ⟨k1, m1⟩ := sortWorld_heap (d := d') (n := n) (os := os) enc kg
    have hpl : d'.toList.Perm zs.attach := by
      have h := hperm.2.2
      have e1 : d'.extract 0 zs.length = d' := by rw [← hsz]; simp
      have e2 : d.extract 0 zs.length = d := by rw [← hds]; simp
      rw [e1, e2] at h
      simpa [d] using h
    have hys : (d'.toList.map Subtype.val).Perm zs := by
      have := hpl.map Subtype.val
      rwa [List.attach_map_subtype_val] at this
    have hget : ∀ i a, (d'.toList.map Subtype.val)[i]? = some a → i < d'.size ∧ (d'[i]!).1 = a := fun i a h => by
      have hi : i < d'.size := by have := (List.getElem?_eq_some_iff.1 h).1; simpa using this
      refine ⟨hi, ?_⟩
      rw [getElem!_pos d' i hi]
      rw [List.getElem?_map] at h
      simp [hi] at h
      exact h
    refine ⟨rfl, d'.toList.map Subtype.val, hys, fun i j a b hij ha hb => ?_, hback _ _ _ k1 (by simp [putCells]) (by simp [hsz]) (fun i b h => ?_), m1.mono (fun i _ e => by rw [e]; rfl)⟩
    · obtain ⟨hi, rfl⟩ := hget i a ha
      obtain ⟨hj, rfl⟩ := hget j b hb
      have h1 := hsort i j (Nat.zero_le _) hij (by omega)
      change decide (pcmp _ _ < 0) = false at h1
      rw [pcmp_lt] at h1
      exact of_decide_eq_false h1
    · obtain ⟨hi, rfl⟩ := hget i b h
      have hic : i < cur.size := by omega
      simp only [putCells, Array.getElem?_mapIdx, Array.getElem?_eq_getElem hic, Option.map_some, Nat.zero_le, Nat.zero_add, true_and, Nat.sub_zero, if_pos hi]
      rfl
theorem rising_unique {pt : Nat → Nat} : ∀ {zs ys : List Nat}, ys.Perm zs → Rising pt ys → zs.Pairwise (fun a b => pt a < pt b) → ys = zs
  | [], ys, hp, _, _ => hp.eq_nil
  | z :: zr, [], hp, _, _ => by cases hp.length_eq
  | z :: zr, y :: yr, hp, hr, hz => by
    rw [List.pairwise_cons] at hz
    have hyz : y = z := by
      have h1 : y ∈ z :: zr := hp.mem_iff.1 (by simp)
      have h2 : z ∈ y :: yr := hp.mem_iff.2 (by simp)
      rcases List.mem_cons.1 h1 with h1 | h1
      · exact h1
      · rcases List.mem_cons.1 h2 with h2 | h2
        · exact h2.symm
        · obtain ⟨j, hj⟩ := List.mem_iff_getElem?.1 h2
          exact absurd (hz.1 y h1) (hr 0 (j + 1) y z (by omega) rfl (by simpa using hj))
    subst hyz
    have hp2 : yr.Perm zr := hp.cons_inv
    rw [rising_unique hp2 (fun i j a b hij ha hb => hr (i + 1) (j + 1) a b (by omega) (by simpa using ha) (by simpa using hb)) hz.2]
theorem sortedFunc_c (Bs nb c : Nat) (es : Array MapEntry) (N : List (Int64 × Nat)) (M : MapIs idv ptrV es c N) (pt : Nat → Nat) (hlen : N.length ≤ 900000) (w : World) (hBs : w.heap[Bs]? = some (.cells #[.map (some nb)] 52 (0, 0))) (kb : w.heap[nb]? = some (.map es c))
    (hd : ∀ b ∈ N.map Prod.snd, ∃ x : Nr, w.heap[b]? = some (.cells (nrc x) 66 (0, 0)) ∧ x.pt = pt b) :
    Calls Try.prog 25 #[valF Bs, .func (.func 27) #[] #[]] w fun e w' =>
      ∃ v ys, e = .returned v ∧ ys.Perm (N.map Prod.snd) ∧ Rising pt ys ∧ SlOwn pc 1 62 w' w.heap.size v ys ∧ Mod (fun _ => False) w w' := by
  have hcol := collect_c Bs nb c es N M hlen w hBs kb
  have HD := Lib.hid hd
  clear hd hBs kb M
  go_enter Try.func25, Try.ntmps25
  go_wp2_with fail
  go_at_call 36
  refine hcol.mono ?_
  rintro e w2 ⟨v, zs, hp, rfl, hO, h3⟩
  have HX := Lib.hid (And.intro hO (And.intro h3 hp))
  clear h3 hcol hO hp
  obtain ⟨a, c, rfl, _⟩ := HX.out.1.at ptrT
  have hzl : zs.length ≤ 900000 := by
    have := HX.out.2.2.length_eq
    rw [List.length_map] at this
    omega
  have HZ := Lib.hid hzl
  go_wp2_with fail
  go_at_call 37
  refine (sortPtrs (pt := pt) HX.out.1 HZ.out (fun b hb => by
    obtain ⟨x, k, e⟩ := HD.out b (HX.out.2.2.mem_iff.1 hb)
    exact ⟨x, HX.out.2.1.at0 k, e⟩)).mono ?_
  rintro e w3 ⟨rfl, ys, h1, h2, h3, h4⟩
  have HY := Lib.hid (And.intro h1 (And.intro h2 (And.intro h3 h4)))
  have hl := h1.length_eq
  clear h1 h2 h3 h4
  go_wp2_with fail
  go_ret
  obtain ⟨h1, h2, h3, h4⟩ := HY.out
  refine ⟨_, ys, rfl, h1.trans HX.out.2.2, h2, h3, HX.out.2.1.then h4 (fun i hi e => ?_)⟩
  have := (HX.out.1.lt _ e).1
  omega
end Go.Proofs.Ytffcnnogkpdinaa
