/- Keys that are arrays of 32 bytes, or a struct of such a key and an int: what the operations of a map need. -/
import Derived.Test.YtofpnmoeimjnnaaLib
import Derived.KernelRfl
import Derived.ChangeKeysEq
namespace Go.Proofs.Ytofpnmoeimjnnaa
open Go.RowKit
set_option linter.unusedVariables false
set_option linter.unusedSimpArgs false

theorem mapM_some {α β : Type} (f : α → Option β) (g : α → β) : ∀ l : List α, (∀ x ∈ l, f x = some (g x)) → l.mapM f = some (l.map g)
  | [], _ => rfl
  | x :: r, h => by
    rw [List.mapM_cons, h x (by simp), mapM_some f g r (fun y hy => h y (List.mem_cons_of_mem _ hy))]
    rfl

theorem bc_wf (b : UInt8) : (Lit.int .u8 (b.toNat : Int)).wf = true := by
  have := b.toNat_lt
  simp [Lit.wf, IntKind.min, IntKind.max, IntKind.bits, IntKind.signed]
  omega

section
variable {P : Program} {K E : TypeId}

/-- The type of a key: [32]byte. -/
structure IsKeyT (P : Program) (K E : TypeId) : Prop where
  laid : laidOutB P = true
  row : K < P.types.size
  at2 : P.keyTypeAt 2 K = true
  u : P.underlying K = some (.array 32 E)
  e : P.underlying E = some (.int .u8)
  cK : P.cellsOf K = 32
  cE : P.cellsOf E = 1
  kt : P.keyType K = true

theorem IsKeyT.lits (h : IsKeyT P K E) (k : Key) (d : Nat) : ∃ l, P.keyLits (d + 2) K (kc k).toList = some l := by
  have hs : (kc k).toList.length = 32 := by simp
  have : ∀ i ∈ List.range 32, P.keyLits (d + 1) E (((kc k).toList.drop (i * P.cellsOf E)).take (P.cellsOf E)) = some [Lit.int .u8 ((k.l.getD i 0).toNat : Int)] := by
    intro i hi
    have hi' : i < 32 := by simpa using hi
    have hl : i < k.l.length := by rw [k.h]; exact hi'
    have h1 : ((kc k).toList.drop (i * P.cellsOf E)).take (P.cellsOf E) = [bc (k.l.getD i 0)] := by
      rw [h.cE, Nat.mul_one]
      simp only [kc]
      show ((k.l.map bc).drop i).take 1 = _
      rw [← List.map_drop, ← List.map_take, List.drop_eq_getElem_cons hl]
      simp only [List.take_succ_cons, List.take_zero, List.map_cons, List.map_nil]
      rw [List.getD_eq_getElem?_getD, List.getElem?_eq_getElem hl]
      rfl
    rw [h1]
    unfold Program.keyLits
    rw [h.e]
    simp [bc, bc_wf]
  unfold Program.keyLits
  rw [h.u]
  simp only [hs, h.cK, if_true]
  rw [mapM_some _ _ _ this]
  exact ⟨_, rfl⟩

theorem IsKeyT.keyT (h : IsKeyT P K E) : KeyT P K kv where
  law := Maps.Keyed.of_law (deep_law_laid h.laid (m := 2) (by omega) h.row h.at2 (by rw [h.u]))
  lit k := by
    obtain ⟨n, hn⟩ : ∃ n, P.types.size = n + 1 := ⟨P.types.size - 1, (Nat.sub_add_cancel (Nat.lt_of_le_of_lt (Nat.zero_le _) h.row)).symm⟩
    obtain ⟨l, hl⟩ := h.lits k n
    unfold keyOf
    rw [h.u]
    simp only [h.kt, kv, Value.formed, h.u, kc_size, h.cK, Bool.true_and, beq_self_eq_true, if_true, Value.cells, hn, hl]
    exact ⟨_, rfl⟩
  inj _ _ := kv_inj

theorem IsKeyT.tiled (h : IsKeyT P K E) : P.tiled 2 K = true := by
  refine tiled_of_laidOut h.laid 2 K ?_ h.at2
  simp only [isVar, Bool.and_eq_true, decide_eq_true_eq]
  refine ⟨h.row, ?_⟩
  rw [h.u]
  simp [kindOk]
/-- '==' of two keys, at whatever depth. -/
theorem IsKeyT.eqIn (h : IsKeyT P K E) (d : Nat) (a b : Key) (w : World) : (Op.equalIn (d + 2) K (.agg (kc a)) (.agg (kc b))).run P w = .ok (decide (a = b)) w := by
  obtain ⟨la, ha⟩ := h.lits a 0
  obtain ⟨lb, hb⟩ := h.lits b 0
  have hf : ∀ k : Key, (Value.agg (kc k)).formed P K = true := fun k => by simp [Value.formed, h.u, h.cK]
  obtain ⟨r, hr, hiff⟩ := run_equalIn_deep (P := P) d 2 K h.at2 w 2 2 (.agg (kc a)) (.agg (kc b)) la lb (hf a) (hf b) ha hb
  rw [hr]
  congr 1
  have key : la = lb ↔ a = b := by
    constructor
    · intro e
      have h1 := cells_of_lits 2 K h.tiled 2 _ _ ha
      have h2 := cells_of_lits 2 K h.tiled 2 _ _ hb
      rw [e, ← h2] at h1
      exact kc_inj (Array.toList_inj.1 h1)
    · rintro rfl
      rw [ha] at hb
      exact Option.some.inj hb
  rw [Bool.eq_iff_iff, hiff, key, decide_eq_true_eq]
/-! Rows of cells that hold a key: names of their own, so that no rule of simp turns them. -/
theorem kc_ext (k : Key) : (kc k).extract 0 32 = kc k := by
  rw [show (32 : Nat) = (kc k).size by simp]
  exact Array.extract_size
theorem kc_one (k : Key) : (kc k).all (·.oneCell') = true := by
  rw [Array.all_eq_true_iff_forall_mem]
  intro v hv
  simp only [kc, List.mem_toArray, List.mem_map] at hv
  obtain ⟨b, _, rfl⟩ := hv
  rfl
theorem all_of {xs : Array Value} {n : Nat} (hs : xs.size = n) (h : xs.all (·.oneCell') = true) : xs.all (·.oneCell') 0 n = true := by
  subst hs
  exact h
theorem kc_one0 (k : Key) : (kc k).all (·.oneCell') 0 32 = true := all_of (kc_size k) (kc_one k)
/-- A key with what stands behind it. -/
def kx (k : Key) (xs : List Value) : Array Value := kc k ++ xs.toArray
theorem kx_size (k : Key) (xs : List Value) : (kx k xs).size = 32 + xs.length := by simp [kx]
theorem kx_key (k : Key) (xs : List Value) : (kx k xs).extract 0 32 = kc k := by
  unfold kx
  rw [show (32 : Nat) = (kc k).size by simp, Array.extract_append_left]
  exact Array.extract_size
theorem kx_all (k : Key) (xs : List Value) {n : Nat} (h : n = 32 + xs.length) : (kx k xs).extract 0 n = kx k xs := by
  rw [h, ← kx_size]
  exact Array.extract_size
theorem kx_get (k : Key) (xs : List Value) (j : Nat) : (kx k xs)[32 + j]? = xs[j]? := by
  unfold kx
  rw [Array.getElem?_append_right (by simp)]
  simp
theorem kx_one (k : Key) (xs : List Value) (h : xs.all (·.oneCell') = true) : (kx k xs).all (·.oneCell') = true := by
  unfold kx
  rw [Array.all_append, kc_one]
  simpa using h
theorem kx_at (k : Key) (xs : List Value) (j : Nat) (v : Value) (hj : xs[j]? = some v) (h : 32 + j < (kx k xs).size) : (kx k xs)[32 + j] = v := by
  have := kx_get k xs j
  rw [Array.getElem?_eq_getElem h, hj] at this
  exact Option.some.inj this
/-- A role; a worker's spot of a key. -/
def rc (k : Key) (s b : Bool) : Array Value := kx k [.bool s, .bool b]
theorem rc_size (k : Key) (s b : Bool) : (rc k s b).size = 34 := kx_size k _
theorem rc_key (k : Key) (s b : Bool) : (rc k s b).extract 0 32 = kc k := kx_key k _
theorem rc_all (k : Key) (s b : Bool) : (rc k s b).extract 0 34 = rc k s b := kx_all k _ rfl
theorem rc_s (k : Key) (s b : Bool) : (rc k s b)[32]? = some (.bool s) := kx_get k _ 0
theorem rc_w (k : Key) (s b : Bool) : (rc k s b)[33]? = some (.bool b) := kx_get k _ 1
theorem rc_s' (k : Key) (s b : Bool) (h : 32 < (rc k s b).size) : (rc k s b)[32] = .bool s := kx_at k _ 0 _ rfl h
theorem rc_w' (k : Key) (s b : Bool) (h : 33 < (rc k s b).size) : (rc k s b)[33] = .bool b := kx_at k _ 1 _ rfl h
theorem rc_one (k : Key) (s b : Bool) : (rc k s b).all (·.oneCell') 0 34 = true := all_of (rc_size k s b) (kx_one k _ rfl)
def sc (k : Key) (n : Int) : Array Value := kx k [.int .i64 n]
theorem sc_size (k : Key) (n : Int) : (sc k n).size = 33 := kx_size k _
theorem sc_key (k : Key) (n : Int) : (sc k n).extract 0 32 = kc k := kx_key k _
theorem sc_all (k : Key) (n : Int) : (sc k n).extract 0 33 = sc k n := kx_all k _ rfl
theorem sc_n (k : Key) (n : Int) : (sc k n)[32]? = some (.int .i64 n) := kx_get k _ 0
theorem sc_n' (k : Key) (n : Int) (h : 32 < (sc k n).size) : (sc k n)[32] = .int .i64 n := kx_at k _ 0 _ rfl h
theorem sc_one (k : Key) (n : Int) : (sc k n).all (·.oneCell') 0 33 = true := all_of (sc_size k n) (kx_one k _ rfl)
/-- A key and a number. -/
def sv (s : Key × Int) : Value := .agg (sc s.1 s.2)
theorem sv_inj {a b : Key × Int} (h : sv a = sv b) : a = b := by
  simp only [sv, Value.agg.injEq, sc, kx] at h
  have h1 := congrArg Array.toList h
  simp only [Array.toList_append] at h1
  obtain ⟨h2, h3⟩ := List.append_inj h1 (by simp)
  obtain ⟨a1, a2⟩ := a
  obtain ⟨b1, b2⟩ := b
  have e1 : a1 = b1 := kc_inj (by simpa using congrArg List.toArray h2)
  have e2 : a2 = b2 := by simpa using h3
  rw [e1, e2]
end
end Go.Proofs.Ytofpnmoeimjnnaa
