/- Graphs: a role equals itself, as the model compares; a row of roles that is written over while it is read. -/
import Derived.Test.YtffcnnogkpdinaaGpp
namespace Go.Proofs.Ytffcnnogkpdinaa
open Go.RowKit
open Go.ChangeMaps (setBlock)
set_option linter.unusedSimpArgs false
set_option linter.unusedVariables false
theorem kx_take (k : Key) (xs : List Value) : (kx k xs).toList.take 32 = (kc k).toList := by
  unfold kx
  rw [Array.toList_append, List.take_append_of_le_length (by simp)]
  exact List.take_of_length_le (by simp)
theorem kx_drop (k : Key) (xs : List Value) (j : Nat) : (kx k xs).toList.drop (32 + j) = xs.drop j := by
  unfold kx
  rw [Array.toList_append, List.drop_append, List.drop_eq_nil_of_le (by simp), List.nil_append]
  simp
theorem lits_bool (b : Bool) (d : Nat) : Try.prog.keyLits (d + 1) 4 [Value.bool b] = some [.bool b] := by
  unfold Program.keyLits
  rw [Try.underlying4]
theorem bool_cells : Try.prog.cellsOf 4 = 1 := by kernel_rfl
theorem role_cells : Try.prog.cellsOf 31 = 34 := by kernel_rfl
theorem role_lits (r : Role) (d : Nat) : ∃ l, Try.prog.keyLits (d + 3) 31 (rcr r).toList = some l := by
  obtain ⟨l, hl⟩ := keyIs.lits r.k d
  unfold Program.keyLits
  rw [Try.underlying31]
  simp only [rcr, rc, role_cells]
  rw [if_pos ⟨by rw [Array.length_toList]; exact kx_size _ _, by kernel_rfl⟩]
  have h1 := kx_take r.k [.bool r.s, .bool r.w]
  have h2 := kx_drop r.k [.bool r.s, .bool r.w] 0
  have h3 := kx_drop r.k [.bool r.s, .bool r.w] 1
  simp only [Nat.add_zero, List.drop_zero, List.drop_succ_cons] at h2 h3
  simp only [List.mapM_cons, List.mapM_nil, keyIs.cK, bool_cells, List.drop_zero, h1, hl, h2, h3, List.take_succ_cons, List.take_zero, lits_bool r.s (d + 1), lits_bool r.w (d + 1)]
  exact ⟨_, rfl⟩
theorem eq_struct {T : TypeId} (hk : Try.prog.keyTypeAt 3 T = true) (ht : Try.prog.tiled 3 T = true) {x y : Array Value} {lx ly : List Lit} (fx : (Value.agg x).formed Try.prog T = true) (fy : (Value.agg y).formed Try.prog T = true)
    (hx : Try.prog.keyLits 3 T x.toList = some lx) (hy : Try.prog.keyLits 3 T y.toList = some ly) (w : World) : ∃ r : Bool, (Op.equalIn 10000 T (.agg x) (.agg y)).run Try.prog w = .ok r w ∧ (r = true ↔ x = y) := by
  obtain ⟨r, hr, hiff⟩ := run_equalIn_deep (P := Try.prog) 9997 3 T hk w 3 3 (.agg x) (.agg y) lx ly fx fy hx hy
  refine ⟨r, hr, hiff.trans ⟨fun e => ?_, fun e => ?_⟩⟩
  · have h1 := cells_of_lits 3 T ht 3 _ _ hx
    have h2 := cells_of_lits 3 T ht 3 _ _ hy
    rw [e, ← h2] at h1
    exact Array.toList_inj.1 h1
  · subst e
    rw [hx] at hy
    exact Option.some.inj hy
theorem eqRole1 (x : Role) (w : World) : (Op.equalIn 10000 31 (.agg (rcr x)) (.agg (rcr x))).run Try.prog w = .ok true w := by
  obtain ⟨lx, hx⟩ := role_lits x 0
  have hat : Try.prog.keyTypeAt 3 31 = true := by kernel_rfl
  have hti : Try.prog.tiled 3 31 = true := by kernel_rfl
  have hf : (Value.agg (rcr x)).formed Try.prog 31 = true := by
    simp [Value.formed, Try.underlying31, role_cells, rcr, rc_size]
  obtain ⟨r, hr, hiff⟩ := eq_struct hat hti hf hf hx hx w
  rw [hr, hiff.2 rfl]
/-- The roles from k on lie in the row at a. -/
def RFrom (w : World) (a : Option Addr) (q : List Role) (k : Nat) : Prop := ∀ i x, k ≤ i → q[i]? = some x → ∃ g C, a = some ⟨g, 0, none⟩ ∧ w.heap[g]? = some (.cells C 31 (0, 0)) ∧ C.extract (i * 34) (i * 34 + 34) = rcr x ∧ i * 34 + 34 ≤ C.size
theorem RFrom.start {w : World} {base c : Nat} {a : Option Addr} {q : List Role} (h : SlOwn rcr 34 31 w base (.slice a q.length c) q) : RFrom w a q 0 := fun i x _ hx => by
  obtain ⟨a', c', hv, hat, _, _⟩ := h.at roleT
  cases hv
  rcases h.2 with ⟨hv, hn⟩ | ⟨g, cap, cur, hv, hb, hg, _⟩
  · have : q = [] := List.eq_nil_of_length_eq_zero hn
    subst this
    simp at hx
  · cases hv
    obtain ⟨b, o, C, U, fr, ha, hb', he, hs⟩ := hat.block hx
    cases ha
    rw [hg] at hb'
    cases hb'
    rw [Nat.zero_add] at he hs
    exact ⟨g, cur, rfl, hg, he, hs⟩
theorem RFrom.mod {w w' : World} {a : Option Addr} {q : List Role} {k : Nat} {S : Nat → Prop} (h : RFrom w a q k) (hm : Mod S w w') (hS : ∀ g, a = some ⟨g, 0, none⟩ → ¬ S g) : RFrom w' a q k := fun i x hk hx => by
  obtain ⟨g, C, ha, hg, he, hs⟩ := h i x hk hx
  exact ⟨g, C, ha, hm.at hg (hS g ha), he, hs⟩
theorem extract_set_lt {C : Array Value} {o a b : Nat} {v : Value} (h : o < a) : (C.setIfInBounds o v).extract a b = C.extract a b := by
  apply Array.ext_getElem?
  intro i
  simp only [Array.getElem?_extract, Array.size_setIfInBounds]
  split
  · rw [Array.getElem?_setIfInBounds_ne (by omega)]
  · rfl
theorem RFrom.mod0 {w w' : World} {a : Option Addr} {q : List Role} {k : Nat} (h : RFrom w a q k) (hm : Mod (fun _ => False) w w') : RFrom w' a q k := h.mod hm (fun _ _ h => h)
theorem RFrom.step {w w' : World} {g : Nat} {C : Array Value} {q : List Role} {k : Nat} {v : Value} (h : RFrom w (some ⟨g, 0, none⟩) q k) (hg : w.heap[g]? = some (.cells C 31 (0, 0))) (hg' : w'.heap[g]? = some (.cells (C.setIfInBounds (k * 34) v) 31 (0, 0))) : RFrom w' (some ⟨g, 0, none⟩) q (k + 1) := fun i x hk hx => by
  obtain ⟨g', C', ha, hg2, he, hs⟩ := h i x (by omega) hx
  cases ha
  rw [hg] at hg2
  cases hg2
  refine ⟨g, _, rfl, hg', ?_, by rw [Array.size_setIfInBounds]; exact hs⟩
  rw [extract_set_lt (by omega)]
  exact he
theorem first_byte {C : Array Value} {o : Nat} {x : Role} (h : C.extract o (o + 34) = rcr x) : ∃ b : UInt8, C[o]? = some (.int .u8 (b.toNat : Int)) := by
  have hl : x.k.l.length = 32 := x.k.h
  refine ⟨x.k.l[0], ?_⟩
  have h1 : (rcr x)[0]? = some (.int .u8 ((x.k.l[0]).toNat : Int)) := by
    unfold rcr rc kx kc
    rw [Array.getElem?_append_left (by simp [hl])]
    simp only [List.getElem?_toArray, List.getElem?_map]
    rw [List.getElem?_eq_getElem (by omega)]
    rfl
  have := cellC h h1
  simpa using this
theorem RFrom.step2 {w w' : World} {g : Nat} {C : Array Value} {q : List Role} {k : Nat} {v v2 : Value} (h : RFrom w (some ⟨g, 0, none⟩) q k) (hg : w.heap[g]? = some (.cells C 31 (0, 0))) (hg' : w'.heap[g]? = some (.cells ((C.setIfInBounds (k * 34) v).setIfInBounds (k * 34 + 33) v2) 31 (0, 0))) : RFrom w' (some ⟨g, 0, none⟩) q (k + 1) := fun i x hk hx => by
  obtain ⟨g', C', ha, hg2, he, hs⟩ := h i x (by omega) hx
  cases ha
  rw [hg] at hg2
  cases hg2
  refine ⟨g, _, rfl, hg', ?_, by rw [Array.size_setIfInBounds, Array.size_setIfInBounds]; exact hs⟩
  rw [extract_set_lt (by omega), extract_set_lt (by omega)]
  exact he
end Go.Proofs.Ytffcnnogkpdinaa
