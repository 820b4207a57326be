/- locks.New, Free. -/
import Derived.Test.YtleenmldlbccmaaRel
namespace Go.Proofs.Ytleenmldlbccmaa
open Go.RowKit
open Go.ChangeMaps (setBlock)
set_option linter.unusedSimpArgs false
set_option linter.unusedVariables false
attribute [local go_sem ↓] wlKey wlRole wlSpot wlCounts wlBits ldKey ldRole ldSpot ldCounts ldBits stKey stRole stSpot stCounts stBits eqCounts eqBits
attribute [local go_sem] zKey_size zRole_size eqHeld cell_blk frozen_blk kc_ext rc_size rc_key rc_all rc_s rc_w rc_s' rc_w' rc_one sc_size sc_key sc_all sc_n sc_n' sc_one one_int one_bool one_ptr one_slice one_map zSpot_size kc_one kc_one0 Value.cells
theorem fresh3 (w : World) (a b c : Obj) : (((w.alloc a).alloc b).alloc c).heap[w.heap.size]? = some a ∧ (((w.alloc a).alloc b).alloc c).heap[w.heap.size + 1]? = some b ∧ (((w.alloc a).alloc b).alloc c).heap[w.heap.size + 1 + 1]? = some c := by
  have e : (((w.alloc a).alloc b).alloc c).heap = ((w.heap.push a).push b).push c := rfl
  rw [e]
  have n1 : w.heap.size + 1 ≠ w.heap.size := by omega
  have n2 : w.heap.size ≠ w.heap.size + 1 + 1 := by omega
  have n3 : w.heap.size + 1 ≠ w.heap.size + 1 + 1 := by omega
  have s2 : (w.heap.push a).size = w.heap.size + 1 := by simp
  have s3 : ((w.heap.push a).push b).size = w.heap.size + 1 + 1 := by simp
  refine ⟨?_, ?_, ?_⟩
  · rw [Array.getElem?_push, s3, if_neg n2, Array.getElem?_push, s2, if_neg (Ne.symm n1), Array.getElem?_push, if_pos rfl]
  · rw [Array.getElem?_push, s3, if_neg n3, Array.getElem?_push, s2, if_pos rfl]
  · rw [Array.getElem?_push, s3, if_pos rfl]
theorem new_c (n : Nat) (w : World) (hn : 1 ≤ n) (hn2 : n ≤ 64) :
    Calls Try.prog 11 #[.int .i64 (n : Int)] w fun e w' => ∃ t hb wb, e = .returned (.tuple #[.pointer (some ⟨t, 0, none⟩), .int .i64 0]) ∧ w.heap.size ≤ t ∧ w.heap.size ≤ hb ∧ w.heap.size ≤ wb ∧ TabAt w' t hb wb n [] ∧ Mod (fun _ => False) w w' := by
  have hmm := @run_makeMap Try.prog
  go_enter Try.func11, Try.ntmps11
  go_wp2_with fail
  go_ret2
  obtain ⟨h1, h2, h3⟩ := fresh3 w (Obj.map #[] 0) (Obj.map #[] 0) (Obj.cells #[.int .i64 n, .map (some w.heap.size), .map (some (w.heap.size + 1))] 49)
  exact ⟨_, w.heap.size, w.heap.size + 1, rfl, by omega, by omega, by omega, ⟨by omega, h3, _, _, _, _, [], [], h1, MapIs.empty pv cv, h2, MapIs.empty kv uv, TabInv.empty⟩, (((Mod.refl _ _).alloc _).alloc _).alloc _⟩
theorem new_bad (n : Int) (w : World) (hn : n < 1 ∨ 64 < n) :
    Calls Try.prog 11 #[.int .i64 n] w fun e w' => e = .returned (.tuple #[.pointer none, .int .i64 1]) ∧ Mod (fun _ => False) w w' := by
  by_cases h : n < 1
  · go_enter Try.func11, Try.ntmps11
    go_wp2_with fail
    go_ret2
    exact ⟨rfl, Mod.refl _ _⟩
  · have h2 : 64 < n := hn.resolve_left h
    go_enter Try.func11, Try.ntmps11
    go_wp2_with fail
    go_ret2
    exact ⟨rfl, Mod.refl _ _⟩
theorem free_T (t hb wb n : Nat) (L : List Lk) (w : World) (h : TabAt w t hb wb n L) :
    Calls Try.prog 19 #[.pointer (some ⟨t, 0, none⟩)] w fun e w' => e = .returned (.bool L.isEmpty) ∧ w = w' := by
  obtain ⟨h1, kt, eh, ch, ew, cw, mh, mw, kh, Mh, kw, Mw, I⟩ := h
  rw [← I.free Mh.nodup]
  exact free_c t hb wb n w eh ch mh kt kh Mh
end Go.Proofs.Ytleenmldlbccmaa
