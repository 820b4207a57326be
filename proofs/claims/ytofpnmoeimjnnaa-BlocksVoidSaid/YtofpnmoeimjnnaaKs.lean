/- Signatures: keys that are arrays of 64 bytes. -/
import Derived.Test.YtofpnmoeimjnnaaKeys
namespace Go.Proofs.Ytofpnmoeimjnnaa
open Go.RowKit
set_option linter.unusedVariables false
set_option linter.unusedSimpArgs false
/-- A signature. -/
structure Sg where
  l : List UInt8
  h : l.length = 64
theorem Sg.ext {a b : Sg} (h : a.l = b.l) : a = b := by cases a; cases b; cases h; rfl
instance : DecidableEq Sg := fun a b => if h : a.l = b.l then .isTrue (Sg.ext h) else .isFalse (fun e => h (e ▸ rfl))
def sgc (s : Sg) : Array Value := (s.l.map bc).toArray
theorem sgc_size (s : Sg) : (sgc s).size = 64 := by simp [sgc, s.h]
theorem sgc_inj {a b : Sg} (h : sgc a = sgc b) : a = b := by
  have h1 : a.l.map bc = b.l.map bc := by simpa [sgc] using h
  exact Sg.ext (List.map_inj_right (fun _ _ => bc_inj) |>.1 h1)
theorem sgc_one (s : Sg) : ∀ u ∈ (sgc s).toList, u.oneCell' = true := by
  intro v hv
  simp only [sgc, List.mem_map] at hv
  obtain ⟨b, _, rfl⟩ := hv
  rfl
theorem sgc_one' (s : Sg) : (sgc s).all (·.oneCell') = true := by
  rw [Array.all_eq_true_iff_forall_mem]
  intro u hu
  exact sgc_one s u (by simpa using hu)
theorem sgc_one0 (s : Sg) : (sgc s).all (·.oneCell') 0 64 = true := all_of (sgc_size s) (sgc_one' s)
theorem sgc_ext (s : Sg) : (sgc s).extract 0 64 = sgc s := by
  rw [show (64 : Nat) = (sgc s).size by rw [sgc_size]]
  exact Array.extract_size
def sgv (s : Sg) : Value := .agg (sgc s)
theorem sgv_inj {a b : Sg} (h : sgv a = sgv b) : a = b := sgc_inj (by simpa [sgv] using h)
section
variable {P : Program} {K E : TypeId}
/-- The type of a signature: [64]byte. -/
structure IsSigT (P : Program) (K E : TypeId) : Prop where
  laid : laidOutB P = true
  row : K < P.types.size
  at2 : P.keyTypeAt 2 K = true
  u : P.underlying K = some (.array 64 E)
  e : P.underlying E = some (.int .u8)
  cK : P.cellsOf K = 64
  cE : P.cellsOf E = 1
  kt : P.keyType K = true
theorem IsSigT.lits (h : IsSigT P K E) (k : Sg) (d : Nat) : ∃ l, P.keyLits (d + 2) K (sgc k).toList = some l := by
  have hs : (sgc k).toList.length = 64 := by rw [Array.length_toList, sgc_size]
  have : ∀ i ∈ List.range 64, P.keyLits (d + 1) E (((sgc k).toList.drop (i * P.cellsOf E)).take (P.cellsOf E)) = some [Lit.int .u8 ((k.l.getD i 0).toNat : Int)] := by
    intro i hi
    have hi' : i < 64 := by simpa using hi
    have hl : i < k.l.length := by rw [k.h]; exact hi'
    have h1 : ((sgc k).toList.drop (i * P.cellsOf E)).take (P.cellsOf E) = [bc (k.l.getD i 0)] := by
      rw [h.cE, Nat.mul_one]
      simp only [sgc]
      show ((k.l.map bc).drop i).take 1 = _
      rw [← List.map_drop, ← List.map_take, List.drop_eq_getElem_cons hl]
      simp only [List.take_succ_cons, List.take_zero, List.map_cons, List.map_nil]
      rw [List.getD_eq_getElem?_getD, List.getElem?_eq_getElem hl]
      rfl
    rw [h1]
    unfold Program.keyLits
    rw [h.e]
    simp [bc, bc_wf]
  unfold Program.keyLits
  rw [h.u]
  simp only [hs, h.cK, if_true]
  rw [mapM_some _ _ _ this]
  exact ⟨_, rfl⟩
theorem IsSigT.keyT (h : IsSigT P K E) : KeyT P K sgv where
  law := Maps.Keyed.of_law (deep_law_laid h.laid (m := 2) (by omega) h.row h.at2 (by rw [h.u]))
  lit k := by
    obtain ⟨n, hn⟩ : ∃ n, P.types.size = n + 1 := ⟨P.types.size - 1, (Nat.sub_add_cancel (Nat.lt_of_le_of_lt (Nat.zero_le _) h.row)).symm⟩
    obtain ⟨l, hl⟩ := h.lits k n
    unfold keyOf
    rw [h.u]
    simp only [h.kt, sgv, Value.formed, h.u, sgc_size, h.cK, Bool.true_and, beq_self_eq_true, if_true, Value.cells, hn, hl]
    exact ⟨_, rfl⟩
  inj _ _ := sgv_inj
theorem IsSigT.tiled (h : IsSigT P K E) : P.tiled 2 K = true := by
  refine tiled_of_laidOut h.laid 2 K ?_ h.at2
  simp only [isVar, Bool.and_eq_true, decide_eq_true_eq]
  refine ⟨h.row, ?_⟩
  rw [h.u]
  simp [kindOk]
theorem IsSigT.eqIn (h : IsSigT P K E) (d : Nat) (a b : Sg) (w : World) : (Op.equalIn (d + 2) K (.agg (sgc a)) (.agg (sgc b))).run P w = .ok (decide (a = b)) w := by
  obtain ⟨la, ha⟩ := h.lits a 0
  obtain ⟨lb, hb⟩ := h.lits b 0
  have hf : ∀ k : Sg, (Value.agg (sgc k)).formed P K = true := fun k => by simp [Value.formed, h.u, h.cK, sgc_size]
  obtain ⟨r, hr, hiff⟩ := run_equalIn_deep (P := P) d 2 K h.at2 w 2 2 (.agg (sgc a)) (.agg (sgc b)) la lb (hf a) (hf b) ha hb
  rw [hr]
  congr 1
  have key : la = lb ↔ a = b := by
    constructor
    · intro e
      have h1 := cells_of_lits 2 K h.tiled 2 _ _ ha
      have h2 := cells_of_lits 2 K h.tiled 2 _ _ hb
      rw [e, ← h2] at h1
      exact sgc_inj (Array.toList_inj.1 h1)
    · rintro rfl
      rw [ha] at hb
      exact Option.some.inj hb
  rw [Bool.eq_iff_iff, hiff, key, decide_eq_true_eq]
end
end Go.Proofs.Ytofpnmoeimjnnaa
