/- Ranks, nodes, one side of a heap: how they lie. -/
import Derived.Test.YtdeghpmlhcaedaaDoorGen2
import Derived.Test.YtdeghpmlhcaedaaDoorTg
import Derived.Test.YtdeghpmlhcaedaaDoorProg
import Derived.BigQuiet
namespace Go.Proofs.YtdeghpmlhcaedaaDoor
open Go.RowKit
open Go.ChangeMaps (setBlock)
set_option linter.unusedSimpArgs false
set_option linter.unusedVariables false
structure Rk where
  p : UInt64
  n : UInt64
deriving DecidableEq
structure Nd where
  r : Rk
  id : Int64
deriving DecidableEq
def rkc (r : Rk) : Array Value := #[.int .u64 (r.p.toNat : Int), .int .u64 (r.n.toNat : Int)]
@[simp] theorem rkc_size (r : Rk) : (rkc r).size = 2 := rfl
theorem rkc_inj {a b : Rk} (h : rkc a = rkc b) : a = b := by
  cases a; cases b
  simp only [rkc, Array.mk.injEq, List.cons.injEq, Value.int.injEq, true_and, and_true] at h
  simp only [Rk.mk.injEq, ← UInt64.toNat_inj]
  omega
def rk0 : Rk := ⟨0, 0⟩
def Ahead (a b : Rk) : Bool := if a.p = b.p then decide (a.n.toNat < b.n.toNat) else decide (b.p.toNat < a.p.toNat)
def nlt (a b : Nd) : Bool := if a.r = b.r then decide (a.id.toInt < b.id.toInt) else Ahead a.r b.r
/-- Of which side: who goes ahead. -/
def flt : Bool → Nd → Nd → Bool
  | false => nlt
  | true => fun a b => nlt b a
theorem nlt_irrefl (a : Nd) : nlt a a = false := by simp [nlt]
theorem nlt_asymm {a b : Nd} (h : nlt a b = true) : nlt b a = false := by
  obtain ⟨⟨p, n⟩, i⟩ := a
  obtain ⟨⟨q, m⟩, j⟩ := b
  simp only [nlt, Ahead, Rk.mk.injEq, ← UInt64.toNat_inj] at *
  grind
theorem nlt_negtrans {a b c : Nd} (h1 : nlt a b = false) (h2 : nlt b c = false) : nlt a c = false := by
  obtain ⟨⟨p, n⟩, i⟩ := a
  obtain ⟨⟨q, m⟩, j⟩ := b
  obtain ⟨⟨s, o⟩, k⟩ := c
  simp only [nlt, Ahead, Rk.mk.injEq, ← UInt64.toNat_inj] at *
  grind
theorem nlt_total {a b : Nd} (h1 : nlt a b = false) (h2 : nlt b a = false) : a = b := by
  obtain ⟨⟨p, n⟩, i⟩ := a
  obtain ⟨⟨q, m⟩, j⟩ := b
  simp only [nlt, Ahead, Rk.mk.injEq, Nd.mk.injEq, ← UInt64.toNat_inj, ← Int64.toInt_inj] at *
  grind
theorem flt_asymm {k : Bool} {a b : Nd} (h : flt k a b = true) : flt k b a = false := by cases k <;> exact nlt_asymm h
theorem flt_negtrans {k : Bool} {a b c : Nd} (h1 : flt k a b = false) (h2 : flt k b c = false) : flt k a c = false := by
  cases k
  · exact nlt_negtrans h1 h2
  · exact nlt_negtrans h2 h1
/-! A node's cells: where it is, at this side, and at the other one. -/
def ndc (k : Bool) (x : Nd) (i o : Int) : Array Value := #[.int .u64 (x.r.p.toNat : Int), .int .u64 (x.r.n.toNat : Int), .int .i64 x.id.toInt, .int .i64 (if k then o else i), .int .i64 (if k then i else o)]
@[simp] theorem ndc_size (k : Bool) (x : Nd) (i o : Int) : (ndc k x i o).size = 5 := rfl
def pc (b : Nat) : Array Value := #[.pointer (some ⟨b, 0, none⟩)]
theorem ptrT : ElT Tryd.prog 114 117 pc 1 8 where
  u := Tryd.underlying114
  info := by
    obtain ⟨i0, hi, hz0, hz1, hz2⟩ := info_parts (show (Tryd.prog.info? 117).map (fun i => (i.zero, i.size, i.bytes)) = some (some (.pointer none), 1, 8) by kernel_rfl)
    exact ⟨i0, _, hi, hz0, hz1, hz2, rfl⟩
  pos := by omega
  size x := rfl
  one x u hu := by
    simp [pc] at hu
    subst hu
    rfl
theorem cellsOf_pc (l : List Nat) : cellsOf pc l = l.map fun b => .pointer (some ⟨b, 0, none⟩) := by
  unfold cellsOf pc
  induction l with
  | nil => rfl
  | cons b l ih => simpa using ih
abbrev ptrV (b : Nat) : Value := .pointer (some ⟨b, 0, none⟩)
/-- The cells of a slice of pointers. -/
theorem own_row {w : World} {base : Nat} {v : Value} {L : List Nat} (h : SlOwn pc 1 117 w base v L) (hL : L ≠ []) :
    ∃ g cap cur, v = .slice (some ⟨g, 0, none⟩) L.length cap ∧ base ≤ g ∧ w.heap[g]? = some (.cells cur 117 (0, 0)) ∧ L.length ≤ cap ∧ cap = cur.size ∧ (∀ (i b : Nat), L[i]? = some b → cur[i]? = some (ptrV b)) ∧
      ∀ (w' : World) (cur' : Array Value) (L' : List Nat), w'.heap[g]? = some (.cells cur' 117 (0, 0)) → cur'.size = cur.size → L'.length = L.length → (∀ (i b : Nat), L'[i]? = some b → cur'[i]? = some (ptrV b)) → SlOwn pc 1 117 w' base v L' := by
  obtain ⟨h0, h⟩ := h
  rcases h with ⟨_, hn⟩ | ⟨g, cap, cur, rfl, hb, hg, hnc, hcm, hcs, htake⟩
  · exact absurd (List.eq_nil_of_length_eq_zero hn) hL
  · rw [Nat.mul_one] at hcs htake
    refine ⟨g, cap, cur, rfl, hb, hg, hnc, hcs.symm, fun i b hi => ?_, fun w' cur' L' hg' hsz hl hc => ⟨?_, .inr ⟨g, cap, cur', by rw [hl], hb, hg', by omega, hcm, by omega, ?_⟩⟩⟩
    · rw [cellsOf_pc] at htake
      have h1 := congrArg (fun l => l[i]?) htake
      have hlt := (List.getElem?_eq_some_iff.1 hi).1
      simp only [List.getElem?_take, List.getElem?_map, hi, Option.map_some, if_pos hlt] at h1
      simpa using h1
    · rw [cellsOf_pc]; simp
    · rw [cellsOf_pc, Nat.mul_one]
      apply List.ext_getElem?
      intro i
      rw [List.getElem?_take, List.getElem?_map]
      by_cases hi : i < L'.length
      · rw [if_pos hi, List.getElem?_eq_getElem hi]
        have := hc i _ (List.getElem?_eq_getElem hi)
        simpa using this
      · rw [if_neg hi, List.getElem?_eq_none (by omega)]
        rfl
/-- The function that tells who is first. -/
def fF : Bool → Value
  | false => .func (.func 45) #[] #[]
  | true => .func (.func 46) #[] #[]
end Go.Proofs.YtdeghpmlhcaedaaDoor
