/- Acts that a worker has: a list of roles and a worker; what they come to in the table; given back in any order. -/
import Derived.Test.YtleenmldlbccmaaOwnG
import Derived.Test.YtleenmldlbccmaaRd
namespace Go.Proofs.Ytleenmldlbccmaa
open Go.RowKit
set_option linter.unusedSimpArgs false
set_option linter.unusedVariables false
abbrev Hv := Sl Role × Fin 64
def hv (h : Hv) : Array Value := #[.bool false, h.1.v, .int .i64 (h.2.val : Int)]
theorem hv_one (x : Hv) : ∀ u ∈ (hv x).toList, u.oneCell' = true := by
  intro u hu
  simp [hv, Sl.v] at hu
  rcases hu with rfl | rfl | rfl <;> rfl
theorem haveT : ElT Try.prog 22 34 hv 3 40 where
  u := Try.underlying22
  info := actT.info
  pos := by omega
  size x := rfl
  one := hv_one
def locksH (H : List Hv) : List Lk := H.flatMap fun h => locksOf h.1.l h.2
theorem locksH_append (H G : List Hv) : locksH (H ++ G) = locksH H ++ locksH G := by simp [locksH]
theorem locksH_cons (h : Hv) (H : List Hv) : locksH (h :: H) = locksOf h.1.l h.2 ++ locksH H := by simp [locksH]
theorem locksH_perm {H G : List Hv} (h : H.Perm G) (x : Lk) : (locksH H).count x = (locksH G).count x := (h.flatMap_right _).count_eq x
/-- The order in which all are given back. -/
def backOrder (H : List Hv) (r : Nat) : List Hv := (H.drop r ++ H.take r).reverse
theorem backOrder_perm (H : List Hv) (r : Nat) : (backOrder H r).Perm H := by
  unfold backOrder
  refine (List.reverse_perm _).trans ?_
  refine List.perm_append_comm.trans ?_
  rw [List.take_append_drop]
theorem backOrder_len (H : List Hv) (r : Nat) : (backOrder H r).length = H.length := (backOrder_perm H r).length_eq
theorem backOrder_get (H : List Hv) (at_ j : Nat) (hj : j < H.length) : (backOrder H (at_ % H.length))[j]? = H[(H.length - 1 - j + at_) % H.length]? := by
  have hr : at_ % H.length < H.length := Nat.mod_lt _ (by omega)
  unfold backOrder
  have hlen : (H.drop (at_ % H.length) ++ H.take (at_ % H.length)).length = H.length := by simp; omega
  rw [List.getElem?_reverse (by rw [hlen]; exact hj), hlen]
  generalize hq : H.length - 1 - j = q
  have hq2 : q < H.length := by omega
  have hmod : (q + at_) % H.length = (q + at_ % H.length) % H.length := by rw [Nat.add_mod, Nat.mod_eq_of_lt hq2]
  rw [hmod]
  generalize at_ % H.length = r at *
  by_cases h : q < H.length - r
  · rw [List.getElem?_append_left (by simpa using h), List.getElem?_drop, Nat.mod_eq_of_lt (by omega), Nat.add_comm]
  · rw [List.getElem?_append_right (by simp; omega), List.length_drop, List.getElem?_take, if_pos (by omega)]
    congr 1
    rw [Nat.mod_eq_sub_mod (by omega), Nat.mod_eq_of_lt (by omega)]
    omega
theorem drop_cons {α : Type} {l : List α} {j : Nat} {x : α} (h : l[j]? = some x) : l.drop j = x :: l.drop (j + 1) := by
  obtain ⟨hj, rfl⟩ := List.getElem?_eq_some_iff.1 h
  exact List.drop_eq_getElem_cons hj
theorem relB_head (h : Hv) (G : List Hv) : relB (locksH (h :: G)) h.1.l h.2 = true := by
  rw [relB_iff]
  intro x
  rw [locksH_cons, List.count_append]
  omega
theorem subL_head (h : Hv) (G : List Hv) (x : Lk) : (locksH G).count x = (subL (locksH (h :: G)) h.1.l h.2).count x := by
  rw [subL_count, locksH_cons, List.count_append]
  omega
theorem and63 (n : Int) : ∃ z : Nat, z < 64 ∧ bits .and .i64 n 63 = (z : Int) := by
  refine ⟨((BitVec.ofInt 64 n &&& BitVec.ofInt 64 63).toNat), ?_, ?_⟩
  · rw [BitVec.toNat_and]
    have : (BitVec.ofInt 64 (63 : Int)).toNat = 63 := rfl
    rw [this]
    have := @Nat.and_le_right (BitVec.ofInt 64 n).toNat 63
    omega
  · show IntKind.i64.wrap ((BitVec.ofInt 64 n &&& BitVec.ofInt 64 63).toNat : Int) = _
    have h1 : (BitVec.ofInt 64 n &&& BitVec.ofInt 64 63).toNat < 64 := by
      rw [BitVec.toNat_and]
      have : (BitVec.ofInt 64 (63 : Int)).toNat = 63 := rfl
      rw [this]
      have := @Nat.and_le_right (BitVec.ofInt 64 n).toNat 63
      omega
    rw [IntKind.wrap_i64]
    omega
theorem freeB_nil (l : List Role) (j : Nat) : freeB [] l j = true := by simp [freeB]
theorem maskN_all (n : Nat) (hn : n ≤ 64) (l : List Role) : maskOf (freeB [] l) n = maskN n := by
  apply Nat.eq_of_testBit_eq
  intro j
  rw [maskOf_testBit, maskN_testBit n hn, freeB_nil, Bool.and_true]
theorem relB_nil (l : List Role) (i : Fin 64) : relB [] l i = l.isEmpty := by
  cases l with
  | nil => rfl
  | cons r l =>
    unfold relB locksOf
    simp
theorem bsAct (s : Sl Role) (i : Fin 64) (w : World) : (Instr.buildSlice 22 1 #[(0, .agg #[.bool false, s.v, .int .i64 (i.val : Int)])]).run Try.prog w = .ok (.slice (some ⟨w.heap.size, 0, none⟩) 1 1) (w.alloc (.cells (hv (s, i)) 34)) := by
  obtain ⟨i0, hi, hz0, hz1, hz2⟩ := info_parts (show (Try.prog.info? 34).map (fun i => (i.zero, i.size, i.bytes)) = some (some (.agg #[.bool false, .slice none 0 0, .int .i64 0]), 3, 40) by kernel_rfl)
  refine run_buildSlice w _ _ 1 _ _ i0 _ Try.underlying22 hi hz0 (by rw [hz1]; omega) (by rw [hz1]; omega) ?_
  rw [hz1]
  show Instr.fill _ _ [(0, Value.agg #[.bool false, s.v, .int .i64 (i.val : Int)])] = _
  rw [fill_cons (off := 0) (n := 3) rfl rfl (by simp)]
  show some (wr _ 0 _) = _
  rw [wr_whole _ _ (by simp [Value.cells])]
  rfl
theorem SlAt.one {α : Type} {f : α → Array Value} {n : Nat} {w : World} {b : Nat} {C : Array Value} {U : TypeId} {fr} (hb : w.heap[b]? = some (.cells C U fr)) (x : α) (hC : C = f x) (hn : (f x).size = n) : SlAt f n w (some ⟨b, 0, none⟩) [x] := by
  subst hC
  refine .inr ⟨b, 0, _, U, fr, rfl, hb, fun i y hy => ?_⟩
  cases i with
  | zero =>
    simp at hy
    subst hy
    refine ⟨?_, by omega⟩
    rw [Nat.zero_mul, Nat.zero_add, ← hn]
    simp
  | succ i => simp at hy
end Go.Proofs.Ytleenmldlbccmaa
