/- Readers together: the locks of rounds j to k, each round of worker i mod 4. -/
import Derived.Test.YtleenmldlbccmaaOwn
namespace Go.Proofs.Ytleenmldlbccmaa
set_option linter.unusedVariables false
set_option linter.unusedSimpArgs false
open Go.RowKit
def wk (i : Nat) : Fin 64 := ⟨i % 4, by omega⟩
def LL (q : List Role) (j k : Nat) : List Lk := (List.range' j (k - j)).flatMap fun i => locksOf q (wk i)
theorem addL_count (i : Fin 64) (x : Lk) : ∀ (l : List Role) (L : List Lk), (addL L l i).count x = L.count x + (locksOf l i).count x
  | [], L => by simp [addL, locksOf]
  | r :: l, L => by
    have := addL_count i x l ((r.k, r.w, i) :: L)
    unfold addL at this ⊢
    rw [List.foldl_cons, this]
    simp only [locksOf, List.map_cons, List.count_cons]
    omega
theorem LL_nil (q : List Role) (j : Nat) : LL q j j = [] := by simp [LL]
theorem LL_last (q : List Role) {j k : Nat} (h : j ≤ k) : LL q j (k + 1) = LL q j k ++ locksOf q (wk k) := by
  unfold LL
  rw [show k + 1 - j = (k - j) + 1 by omega, List.range'_concat, List.flatMap_append]
  simp [show j + (k - j) = k by omega]
theorem LL_first (q : List Role) {j k : Nat} (h : j < k) : LL q j k = locksOf q (wk j) ++ LL q (j + 1) k := by
  unfold LL
  rw [show k - j = (k - (j + 1)) + 1 by omega, List.range'_succ, List.flatMap_cons]
theorem locksOf_len (q : List Role) (i : Fin 64) : (locksOf q i).length = q.length := by simp [locksOf]
theorem LL_len (q : List Role) (j : Nat) : ∀ n, (LL q j (j + n)).length = n * q.length
  | 0 => by rw [Nat.add_zero, LL_nil]; simp
  | n + 1 => by
    rw [← Nat.add_assoc, LL_last q (by omega), List.length_append, LL_len q j n, locksOf_len, Nat.succ_mul]
theorem LL_reads {q : List Role} (hq : ∀ r ∈ q, r.w = false) {j k : Nat} : ∀ x ∈ LL q j k, x.2.1 = false := by
  intro x hx
  unfold LL locksOf at hx
  simp only [List.mem_flatMap, List.mem_map] at hx
  obtain ⟨i, _, r, hr, rfl⟩ := hx
  exact hq r hr
theorem LL_free {q : List Role} (hq : ∀ r ∈ q, r.w = false) (j k i : Nat) : freeB (LL q j k) q i = true := by
  rw [freeB_iff]
  intro r hr x hx _ _ hh
  rw [LL_reads hq x hx, hq r hr] at hh
  simp at hh
theorem threads_rd (t hb wb : Nat) (q : List Role) (j k : Nat) (a : Option Addr) (c : Nat) (w : World) (hq : ∀ r ∈ q, r.w = false) (h : TabAt w t hb wb 4 (LL q j k)) (hl : RolesAt w a q) (hlen : q.length ≤ 1000) :
    Calls Try.prog 13 #[.pointer (some ⟨t, 0, none⟩), .slice a q.length c] w fun e w' => e = .returned (.int .u64 15) ∧ Mod (fun _ => False) w w' := by
  have := threads_m t hb wb 4 _ a q c w h (by omega) (by omega) hl (by omega)
  rw [maskOf_all 4 _ (fun i _ => LL_free hq j k i)] at this
  exact this
theorem take_rd (t hb wb : Nat) (q : List Role) (k : Nat) (a : Option Addr) (c : Nat) (w : World) (hq : ∀ r ∈ q, r.w = false) (h : TabAt w t hb wb 4 (LL q 0 k)) (hl : RolesAt w a q) (hlen : q.length ≤ 1000) (hk : k ≤ 10) :
    Calls Try.prog 17 #[.pointer (some ⟨t, 0, none⟩), .slice a q.length c, .int .i64 ((k : Int) % 4)] w fun e w' => e = .returned (.int .i64 0) ∧ TabAt w' t hb wb 4 (LL q 0 (k + 1)) ∧ Mod (fun i => i = hb ∨ i = wb) w w' := by
  have hl0 := LL_len q 0 k
  rw [Nat.zero_add] at hl0
  have hmul : k * q.length ≤ 10 * 1000 := Nat.mul_le_mul hk hlen
  have hT := take_m t hb wb 4 _ a q c (wk k) w h (by omega) (by omega) hl (by omega) (by simp only [wk]; omega)
  rw [show ((wk k).val : Int) = (k : Int) % 4 by simp [wk]] at hT
  refine hT.mono ?_
  intro e w' hh
  unfold TakePost at hh
  rw [if_pos (LL_free hq 0 k _)] at hh
  exact ⟨hh.1, hh.2.1.perm (fun x => by rw [LL_last q (Nat.zero_le k), List.count_append, addL_count]), hh.2.2⟩
theorem release_rd (t hb wb : Nat) (q : List Role) (j k : Nat) (a : Option Addr) (c : Nat) (w : World) (h : TabAt w t hb wb 4 (LL q j k)) (hl : RolesAt w a q) (hlen : q.length ≤ 1000) (hj : j < k) (hk : k ≤ 10) :
    Calls Try.prog 15 #[.pointer (some ⟨t, 0, none⟩), .slice a q.length c, .int .i64 ((j : Int) % 4)] w fun e w' => e = .returned (.int .i64 0) ∧ TabAt w' t hb wb 4 (LL q (j + 1) k) ∧ Mod (fun i => i = hb ∨ i = wb) w w' := by
  have hl0 := LL_len q j (k - j)
  rw [show j + (k - j) = k by omega] at hl0
  have hmul : (k - j) * q.length ≤ 10 * 1000 := Nat.mul_le_mul (by omega) hlen
  have hT := release_m t hb wb 4 _ a q c (wk j) w h hl (by omega) (by omega) (by simp only [wk]; omega)
  rw [show ((wk j).val : Int) = (j : Int) % 4 by simp [wk]] at hT
  refine hT.mono ?_
  intro e w' hh
  rw [if_pos (relB_iff.2 (fun x => by rw [LL_first q hj, List.count_append]; omega))] at hh
  exact ⟨hh.1, hh.2.1.perm (fun x => by rw [subL_count, LL_first q hj, List.count_append]; omega), hh.2.2⟩
/-! One worker's locks, taken again and again. -/
def RR (l : List Role) : Nat → List Lk
  | 0 => []
  | n + 1 => RR l n ++ locksOf l 2
theorem RR_len (l : List Role) : ∀ n, (RR l n).length = n * l.length
  | 0 => by simp [RR]
  | n + 1 => by rw [RR, List.length_append, RR_len l n, locksOf_len, Nat.succ_mul]
theorem RR_mem (l : List Role) : ∀ n, ∀ x ∈ RR l n, x.2.2 = 2
  | 0, x, hx => by simp [RR] at hx
  | n + 1, x, hx => by
    rw [RR] at hx
    rcases List.mem_append.1 hx with h | h
    · exact RR_mem l n x h
    · simp only [locksOf, List.mem_map] at h
      obtain ⟨r, _, rfl⟩ := h
      rfl
theorem RR_free (l : List Role) (n : Nat) : freeB (RR l n) l 2 = true := by
  rw [freeB_iff]
  intro r hr x hx _ hne
  rw [RR_mem l n x hx] at hne
  exact absurd rfl hne
theorem RR_empty (l : List Role) (n : Nat) (hn : 1 ≤ n) : (RR l n).isEmpty = l.isEmpty := by
  have := RR_len l n
  rw [Bool.eq_iff_iff]
  simp only [List.isEmpty_iff]
  constructor
  · intro h
    rw [h] at this
    simp only [List.length_nil] at this
    rcases Nat.mul_eq_zero.1 this.symm with h | h
    · omega
    · exact List.length_eq_zero_iff.1 h
  · rintro rfl
    exact List.length_eq_zero_iff.1 (by rw [this]; simp)
theorem take_rr (t hb wb : Nat) (l : List Role) (k : Nat) (a : Option Addr) (c : Nat) (w : World) (h : TabAt w t hb wb 4 (RR l k)) (hl : RolesAt w a l) (hlen : l.length ≤ 1000) (hk : k ≤ 10) :
    Calls Try.prog 17 #[.pointer (some ⟨t, 0, none⟩), .slice a l.length c, .int .i64 2] w fun e w' => e = .returned (.int .i64 0) ∧ TabAt w' t hb wb 4 (RR l (k + 1)) ∧ Mod (fun i => i = hb ∨ i = wb) w w' := by
  have hl0 := RR_len l k
  have hmul : k * l.length ≤ 10 * 1000 := Nat.mul_le_mul hk hlen
  have hT := take_m t hb wb 4 _ a l c 2 w h (by omega) (by omega) hl (by omega) (by decide)
  refine hT.mono ?_
  intro e w' hh
  unfold TakePost at hh
  have hf : freeB (RR l k) l (2 : Fin 64).val = true := RR_free l k
  rw [if_pos hf] at hh
  exact ⟨hh.1, hh.2.1.perm (fun x => by rw [RR, List.count_append, addL_count]), hh.2.2⟩
theorem threads_rr (t hb wb : Nat) (l : List Role) (k : Nat) (a : Option Addr) (c : Nat) (w : World) (h : TabAt w t hb wb 4 (RR l k)) (hl : RolesAt w a l) (hlen : l.length ≤ 1000) :
    ∃ x : Nat, bits .and .u64 ((x : Int) / 2 ^ 2) 1 = 1 ∧ bits .and .u64 ((x : Int) / 4) 1 = 1 ∧ Calls Try.prog 13 #[.pointer (some ⟨t, 0, none⟩), .slice a l.length c] w fun e w' => e = .returned (.int .u64 x) ∧ Mod (fun _ => False) w w' := by
  have h1 : (maskOf (freeB (RR l k) l) 4).testBit 2 = true := by
    rw [maskOf_testBit, RR_free]
    rfl
  have h2 := bit_and1 (maskOf (freeB (RR l k) l) 4) 2 (Nat.lt_of_lt_of_le (maskOf_lt _ 4) (by decide))
  rw [h1, if_pos rfl] at h2
  exact ⟨_, h2, h2, threads_m t hb wb 4 _ a l c w h (by omega) (by omega) hl (by omega)⟩
end Go.Proofs.Ytleenmldlbccmaa
