/- Comparing the keys of two holdings: the walk of the comparison that List hands to the sort. -/
import Derived.Test.YtknmiojegnbakaaMade
import Derived.Sort.Walk0
import Derived.Deep.QuietTactic
import Derived.Sort.Grow
namespace Go.Proofs.Ytknmiojegnbakaa
open Go.RowKit Go.Sort
open Go.ChangeMaps (setBlock)
set_option linter.unusedSimpArgs false
set_option linter.unusedVariables false
/-! Keys in the order of their bytes. -/
def klt (a b : Key) : Bool := Op.bytesLess a.l b.l
theorem klt_iff (a b : Key) : klt a b = true ↔ a.l < b.l := by
  unfold klt
  rw [bytesLess_eq]
  simp
theorem klt_irrefl (a : Key) : klt a a = false := by
  rw [Bool.eq_false_iff, ne_eq, klt_iff]
  exact List.lt_irrefl _
theorem klt_trans {a b c : Key} (h : klt a b = true) (k : klt b c = true) : klt a c = true := by
  rw [klt_iff] at *
  exact List.lt_trans h k
theorem klt_total (a b : Key) : klt a b = true ∨ a = b ∨ klt b a = true := by
  rw [klt_iff, klt_iff]
  by_cases h : a.l < b.l
  · exact .inl h
  · by_cases h2 : b.l < a.l
    · exact .inr (.inr h2)
    · exact .inr (.inl (Key.ext (List.le_antisymm (List.not_lt.1 h2) (List.not_lt.1 h))))
def bytesOfL (l : List UInt8) : ByteArray := ⟨l.toArray⟩
def kcmp (a b : Key) : Int := Extern.BytealgCompare.cmp (bytesOfL a.l) (bytesOfL b.l)
theorem getB (l : List UInt8) (i : Nat) (h : i < l.length) : (bytesOfL l)[i]! = l[i] := by
  have h2 : i < (bytesOfL l).size := h
  exact getElem!_pos (bytesOfL l) i h2
theorem kcmp_lt (a b : Key) : decide (kcmp a b < 0) = klt a b := by
  rw [Bool.eq_iff_iff, decide_eq_true_eq, klt_iff, List.lt_iff_exists]
  have ha := a.h
  have hb := b.h
  have sa : (bytesOfL a.l).size = 32 := by
    show a.l.toArray.size = 32
    simp [ha]
  have sb : (bytesOfL b.l).size = 32 := by
    show b.l.toArray.size = 32
    simp [hb]
  have hs : min (bytesOfL a.l).size (bytesOfL b.l).size = 32 := by omega
  unfold kcmp Extern.BytealgCompare.cmp
  rw [hs]
  split
  · rename_i i hi
    rw [List.find?_range_eq_some] at hi
    obtain ⟨h1, h2, h3⟩ := hi
    have h2 : i < 32 := by simpa using h2
    rw [getB _ _ (by omega), getB _ _ (by omega)] at h1 ⊢
    have h1 : a.l[i] ≠ b.l[i] := by simpa using h1
    have hj : ∀ (j : Nat) (hj : j < i), a.l[j]'(by omega) = b.l[j]'(by omega) := fun j hj => by
      have := h3 j hj
      rw [getB _ _ (by omega), getB _ _ (by omega)] at this
      simpa using this
    constructor
    · intro hlt
      refine .inr ⟨i, by omega, by omega, hj, ?_⟩
      by_cases hh : a.l[i] < b.l[i]
      · exact hh
      · rw [if_neg hh] at hlt
        omega
    · rintro (⟨_, h⟩ | ⟨k, hk1, hk2, hk3, hk4⟩)
      · omega
      · rcases Nat.lt_trichotomy k i with hki | rfl | hki
        · rw [hj k hki] at hk4
          exact absurd hk4 (UInt8.lt_irrefl _)
        · rw [if_pos hk4]
          omega
        · exact absurd (hk3 i hki) h1
  · rename_i hi
    rw [List.find?_range_eq_none] at hi
    rw [sa, sb]
    constructor
    · intro h
      simp at h
    · rintro (⟨_, h⟩ | ⟨k, hk1, hk2, hk3, hk4⟩)
      · omega
      · have := hi k (by omega)
        rw [getB _ _ (by omega), getB _ _ (by omega)] at this
        have h1 : a.l[k] = b.l[k] := by simpa using this
        rw [h1] at hk4
        exact absurd hk4 (UInt8.lt_irrefl _)
/-! Bytes read out of a block. -/
theorem run_loadBytes (P : Program) (w : World) (b : Nat) : ∀ (l : List UInt8) (o : Nat) (acc : ByteArray), (∀ i x, l[i]? = some x → w.cell? ⟨b, o + i, none⟩ = some (bc x)) →
    (Extern.Bytes.loadBytes ⟨b, o, none⟩ l.length acc).run P w = .ok ⟨acc.data ++ l.toArray⟩ w
  | [], o, acc, h => by
    simp [Extern.Bytes.loadBytes]
  | x :: l, o, acc, h => by
    have h0 := h 0 x rfl
    rw [Nat.add_zero] at h0
    have ih := run_loadBytes P w b l (o + 1) (acc.push x) (fun i y hy => by
      have := h (i + 1) y hy
      rwa [show o + 1 + i = o + (i + 1) by omega])
    have hadd : (⟨b, o, none⟩ : Addr).add 1 = ⟨b, o + 1, none⟩ := rfl
    simp only [Extern.Bytes.loadBytes, List.length_cons, Sem.run_bind, run_load, h0, Result.andThen_ok, bc, hadd]
    have e : ((x.toNat : Int).toNat).toUInt8 = x := by
      rw [Int.toNat_natCast]
      exact UInt8.ofNat_toNat
    rw [e, ih]
    congr 2
    show acc.data.push x ++ l.toArray = _
    simp
theorem cmpRun (P : Program) (w : World) (b1 b2 o1 o2 c1 c2 : Nat) (a b : Key) (h1 : ∀ i x, a.l[i]? = some x → w.cell? ⟨b1, o1 + i, none⟩ = some (bc x)) (h2 : ∀ i x, b.l[i]? = some x → w.cell? ⟨b2, o2 + i, none⟩ = some (bc x)) :
    (Extern.BytealgCompare.compare #[.slice (some ⟨b1, o1, none⟩) 32 c1, .slice (some ⟨b2, o2, none⟩) 32 c2]).run P w = .ok (.int .i64 (kcmp a b)) w := by
  have e1 := run_loadBytes P w b1 a.l o1 .empty h1
  have e2 := run_loadBytes P w b2 b.l o2 .empty h2
  rw [a.h] at e1
  rw [b.h] at e2
  have f1 : (Extern.Bytes.bytesOf (.slice (some ⟨b1, o1, none⟩) 32 c1)).run P w = .ok (bytesOfL a.l) w := by
    unfold Extern.Bytes.bytesOf
    rw [e1]
    congr 2
    simp [bytesOfL]
  have f2 : (Extern.Bytes.bytesOf (.slice (some ⟨b2, o2, none⟩) 32 c2)).run P w = .ok (bytesOfL b.l) w := by
    unfold Extern.Bytes.bytesOf
    rw [e2]
    congr 2
    simp [bytesOfL]
  have e : Extern.BytealgCompare.compare #[.slice (some ⟨b1, o1, none⟩) 32 c1, .slice (some ⟨b2, o2, none⟩) 32 c2] = (Extern.Bytes.bytesOf (.slice (some ⟨b1, o1, none⟩) 32 c1) >>= fun x => Extern.Bytes.bytesOf (.slice (some ⟨b2, o2, none⟩) 32 c2) >>= fun y => pure (goInt (Extern.BytealgCompare.cmp x y))) := rfl
  rw [e]
  simp only [Sem.run_bind, f1, f2, Result.andThen_ok, Sem.run_pure]
  rfl
theorem cmpCall (w : World) (b1 b2 o1 o2 c1 c2 : Nat) (a b : Key) (h1 : ∀ i x, a.l[i]? = some x → w.cell? ⟨b1, o1 + i, none⟩ = some (bc x)) (h2 : ∀ i x, b.l[i]? = some x → w.cell? ⟨b2, o2 + i, none⟩ = some (bc x)) :
    (callFunc 39 #[.slice (some ⟨b1, o1, none⟩) 32 c1, .slice (some ⟨b2, o2, none⟩) 32 c2]).run Try.prog w = .ok (.value (.int .i64 (kcmp a b))) w := by
  rw [run_callFunc_extern Try.func39 (by kernel_rfl) (by kernel_rfl) (by kernel_rfl) (e := Extern.BytealgCompare.compare) (by kernel_rfl), cmpRun _ w b1 b2 o1 o2 c1 c2 a b h1 h2]
  rfl
theorem bcmp_c (b1 b2 o1 o2 c1 c2 : Nat) (a b : Key) (w : World) (h1 : ∀ i x, a.l[i]? = some x → w.cell? ⟨b1, o1 + i, none⟩ = some (bc x)) (h2 : ∀ i x, b.l[i]? = some x → w.cell? ⟨b2, o2 + i, none⟩ = some (bc x)) :
    Calls Try.prog 28 #[.slice (some ⟨b1, o1, none⟩) 32 c1, .slice (some ⟨b2, o2, none⟩) 32 c2] w fun e w' => e = .returned (.int .i64 (kcmp a b)) ∧ w' = w := by
  have hc := cmpCall w b1 b2 o1 o2 c1 c2 a b h1 h2
  clear h1 h2
  go_enter Try.func28, Try.ntmps28
  go_wp2_with fail
  go_ret
  exact ⟨rfl, rfl⟩
theorem hd_key_cell {w : World} {p : Nat} {h : Hold} {T : TypeId} {fr : Nat × Nat} (k : w.heap[p]? = some (.cells (hd h) T fr)) : ∀ i x, h.k.l[i]? = some x → w.cell? ⟨p, 0 + i, none⟩ = some (bc x) := fun i x hx => by
  have hi : i < h.k.l.length := (List.getElem?_eq_some_iff.1 hx).1
  rw [h.k.h] at hi
  refine cell_in (o := 0) (n := 32) (cs := kc h.k) k (hd_key h) ?_
  simp [kc, hx]
attribute [local go_sem] hd_size cell_blk frozen_blk one_int one_ptr one_slice
set_option maxHeartbeats 1600000 in
theorem cmp_c (x y : Hold) (w : World) : Calls Try.prog 27 #[.agg (hd x), .agg (hd y)] w fun e w' => e = .returned (.int .i64 (kcmp x.k y.k)) ∧ ∃ q os', w' = grow (w.drewN q) os' := by
  go_enter Try.func27, Try.ntmps27
  go_upto_region 1 with fail
  have k1 := (fresh2 w (.cells (hd x) 38) (.cells (hd y) 38)).1
  have k2 := (fresh2 w (.cells (hd x) 38) (.cells (hd y) 38)).2
  have hw : ∃ os, (w.alloc (.cells (hd x) 38)).alloc (.cells (hd y) 38) = grow w os := ⟨_, by rw [alloc_eq_grow, alloc_eq_grow, grow_grow]⟩
  have HW := Lib.hid hw
  clear hw
  generalize (w.alloc (.cells (hd x) 38)).alloc (.cells (hd y) 38) = w2 at *
  generalize w.heap.size = n at *
  have hc : ∀ m, Calls Try.prog 28 #[.slice (some ⟨n, 0, none⟩) 32 32, .slice (some ⟨n + 1, 0, none⟩) 32 32] (w2.drewN m) fun e w' => e = .returned (.int .i64 (kcmp x.k y.k)) ∧ w' = w2.drewN m := fun m => bcmp_c n (n + 1) 0 0 32 32 x.k y.k _ (hd_key_cell (show (w2.drewN m).heap[n]? = _ from k1)) (hd_key_cell (show (w2.drewN m).heap[n + 1]? = _ from k2))
  have HC := Lib.hid hc
  clear hc
  go_quiet ((go_at_call 28; exact Calls.quiet_of_same (HC.out _)))
  go_wp2_with fail
  go_ret
  obtain ⟨os, rfl⟩ := HW.out
  exact ⟨rfl, nq, os, rfl⟩
end Go.Proofs.Ytknmiojegnbakaa
