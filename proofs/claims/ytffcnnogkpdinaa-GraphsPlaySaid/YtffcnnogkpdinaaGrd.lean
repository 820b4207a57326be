/- Graphs: what is handed in: keys, roles, acts, bools, small numbers. -/
import Derived.Test.YtffcnnogkpdinaaRo
import Derived.ProofKit
import Derived.OpenShut
namespace Go.Proofs.Ytffcnnogkpdinaa
set_option linter.unusedVariables false
set_option linter.unusedSimpArgs false
open Go.ChangeShapes Go.WideShapes Go.ChangeAt Go.RowKit
theorem u8_of {n : Int} (h : 0 ≤ n ∧ n ≤ 255) : ∃ x : UInt8, n = (x.toNat : Int) := ⟨UInt8.ofNat n.toNat, by
  rw [UInt8.toNat_ofNat']
  omega⟩
theorem i64_of {n : Int} (h : -9223372036854775808 ≤ n ∧ n ≤ 9223372036854775807) : ∃ x : Int64, n = x.toInt := ⟨Int64.ofInt n, by
  rw [Int64.toInt_ofInt_of_le (by simpa using h.1) (by omega)]⟩
section
variable {H : Type} {enc : TypeId × Value → H} {w : World} {base : Nat} {sp : Nat → Bool} {held : Bool}
theorem key_of {fuel : Nat} {cs : List Value} {x : DataW H × List MemPlace} (h : DataW.trod enc Try.prog w base sp held fuel 23 cs = some x) : ∃ k : Key, cs.toArray = kc k := by
  obtain ⟨xs, m, rfl, rfl, hl, hx, hi⟩ := DataW.trod_array Try.underlying23 h
  have hl : cs.length = 32 := hl.trans (by kernel_rfl)
  have hget : ∀ i, i < 32 → ∃ n : UInt8, cs[i]? = some (bc n) := fun i h32 => by
    have hq := hi i h32
    rw [show Try.prog.cellsOf 5 = 1 by kernel_rfl, Nat.mul_one, List.getElem?_eq_getElem (by omega)] at hq
    obtain ⟨n, hn, _, hw⟩ := DataW.trod_int Try.underlying5 hq
    have hb := bounds_u8 hw
    refine ⟨UInt8.ofNat n.toNat, ?_⟩
    rw [take1 hn]
    unfold bc
    have : ((UInt8.ofNat n.toNat).toNat : Int) = n := by
      rw [UInt8.toNat_ofNat']
      omega
    rw [this]
  let f : Value → UInt8 := fun v => match v with
    | .int _ n => UInt8.ofNat n.toNat
    | _ => 0
  refine ⟨⟨cs.map f, by simp [hl]⟩, ?_⟩
  apply Array.ext_getElem?
  intro i
  unfold kc
  simp only [List.getElem?_toArray, List.map_map, List.getElem?_map]
  by_cases h32 : i < 32
  · obtain ⟨n, hn⟩ := hget i h32
    rw [hn]
    have : bc (f (bc n)) = bc n := by
      show bc (UInt8.ofNat ((n.toNat : Int).toNat)) = bc n
      rw [Int.toNat_natCast, UInt8.ofNat_toNat]
    simp [this]
  · rw [List.getElem?_eq_none (by omega)]
    rfl
theorem role_of {fuel : Nat} {cs : List Value} {x : DataW H × List MemPlace} (h : DataW.trod enc Try.prog w base sp held fuel 31 cs = some x) : ∃ r : Role, cs.toArray = rc r.k r.s r.w := by
  obtain ⟨xs, m, rfl, rfl, hl, hx, hi⟩ := DataW.trod_struct Try.underlying31 h
  have hl : cs.length = 34 := hl.trans (by kernel_rfl)
  have hx : xs.length = 3 := hx
  have h0 : DataW.trod enc Try.prog w base sp held m 23 ((cs.drop 0).take (Try.prog.cellsOf 23)) = xs[0]? := hi 0 _ rfl
  have h1 : DataW.trod enc Try.prog w base sp held m 4 ((cs.drop 32).take (Try.prog.cellsOf 4)) = xs[1]? := hi 1 _ rfl
  have h2 : DataW.trod enc Try.prog w base sp held m 4 ((cs.drop 33).take (Try.prog.cellsOf 4)) = xs[2]? := hi 2 _ rfl
  rw [List.getElem?_eq_getElem (by omega)] at h0 h1 h2
  rw [show Try.prog.cellsOf 23 = 32 by kernel_rfl] at h0
  rw [show Try.prog.cellsOf 4 = 1 by kernel_rfl] at h1 h2
  obtain ⟨k, hk⟩ := key_of h0
  obtain ⟨s, hs, _⟩ := DataW.trod_bool Try.underlying4 h1
  obtain ⟨b, hb, _⟩ := DataW.trod_bool Try.underlying4 h2
  refine ⟨⟨k, s, b⟩, ?_⟩
  unfold rc kx
  rw [← hk]
  have e : cs = (cs.drop 0).take 32 ++ ((cs.drop 32).take 1 ++ (cs.drop 33).take 1) := by
    have e3 : (cs.drop 33).take 1 = cs.drop 33 := List.take_of_length_le (by simp [hl])
    rw [e3, show cs.drop 33 = (cs.drop 32).drop 1 by simp, List.take_append_drop, List.drop_zero, List.take_append_drop]
  rw [hs, hb] at e
  conv => lhs; rw [e]
  simp
end
/-- An act: it pops, or puts, an id, with roles. -/
structure Ac where
  pop : Bool
  id : Int64
  s : Sl Role
def acv (x : Ac) : Array Value := #[.bool x.pop, .int .i64 x.id.toInt, x.s.v]
def boc (b : Bool) : Array Value := #[.bool b]
def u8c (b : UInt8) : Array Value := #[.int .u8 (b.toNat : Int)]
def AcOk (w : World) (x : Ac) : Prop := SlOk rcr 34 34 (fun _ _ => True) w x.s
def role0 : Role := ⟨⟨List.replicate 32 0, rfl⟩, false, false⟩
section
variable {H : Type} {enc : TypeId × Value → H}
theorem key_reads : Reads enc Try.prog 23 kc (fun _ _ => True) := fun w base sp held fuel cs x h _ => by
  obtain ⟨k, hk⟩ := key_of h
  exact ⟨k, hk, trivial⟩
theorem role_reads : Reads enc Try.prog 31 rcr (fun _ _ => True) := fun w base sp held fuel cs x h _ => by
  obtain ⟨r, hr⟩ := role_of h
  exact ⟨r, hr, trivial⟩
theorem roles_reads : Reads enc Try.prog 32 (slv (α := Role)) (SlOk rcr 34 34 (fun _ _ => True)) :=
  slice_reads Try.underlying32 (by kernel_rfl) (by kernel_rfl) (by omega) role_reads role0
theorem act_reads : Reads enc Try.prog 44 acv AcOk := fun w base sp held fuel cs x h hfit => by
  obtain ⟨xs, m, rfl, rfl, hl, hx, hi⟩ := DataW.trod_struct Try.underlying44 h
  have hl : cs.length = 3 := hl.trans (by kernel_rfl)
  have hx : xs.length = 3 := hx
  have h0 : DataW.trod enc Try.prog w base sp held m 4 ((cs.drop 0).take (Try.prog.cellsOf 4)) = xs[0]? := hi 0 _ rfl
  have h1 : DataW.trod enc Try.prog w base sp held m 3 ((cs.drop 1).take (Try.prog.cellsOf 3)) = xs[1]? := hi 1 _ rfl
  have h2 : DataW.trod enc Try.prog w base sp held m 32 ((cs.drop 2).take (Try.prog.cellsOf 32)) = xs[2]? := hi 2 _ rfl
  rw [List.getElem?_eq_getElem (by omega)] at h0 h1 h2
  rw [show Try.prog.cellsOf 4 = 1 by kernel_rfl] at h0
  rw [show Try.prog.cellsOf 3 = 1 by kernel_rfl] at h1
  rw [show Try.prog.cellsOf 32 = 1 by kernel_rfl] at h2
  obtain ⟨b, hb, _⟩ := DataW.trod_bool Try.underlying4 h0
  obtain ⟨n, hn, _, hw⟩ := DataW.trod_int Try.underlying3 h1
  have hf2 : fits Try.prog 32 (xs[2].1) := fits_field (i := 2) (d := xs[2].1) (fl := _) Try.underlying44 hfit rfl (by rw [List.getElem?_map, List.getElem?_eq_getElem (by omega)]; rfl)
  obtain ⟨s, hs, hok⟩ := roles_reads _ _ _ _ _ _ _ h2 hf2
  obtain ⟨y, rfl⟩ := i64_of (bounds_i64 hw)
  refine ⟨⟨b, y, s⟩, ?_, hok⟩
  have e : cs = (cs.drop 0).take 1 ++ ((cs.drop 1).take 1 ++ (cs.drop 2).take 1) := by
    have e3 : (cs.drop 2).take 1 = cs.drop 2 := List.take_of_length_le (by simp [hl])
    rw [e3, show cs.drop 2 = (cs.drop 1).drop 1 by simp, List.take_append_drop, List.drop_zero, List.take_append_drop]
  have hs' : (cs.drop 2).take 1 = [s.v] := by
    have := congrArg Array.toList hs
    simpa [slv] using this
  rw [hb, hs', hn] at e
  rw [e]
  rfl
theorem acts_reads : Reads enc Try.prog 39 (slv (α := Ac)) (SlOk acv 3 40 AcOk) :=
  slice_reads Try.underlying39 (by kernel_rfl) (by kernel_rfl) (by omega) act_reads ⟨false, 0, ⟨none, [], 0⟩⟩
theorem bool_reads : Reads enc Try.prog 4 boc (fun _ _ => True) := fun w base sp held fuel cs x h hfit => by
  obtain ⟨b, rfl, _⟩ := DataW.trod_bool Try.underlying4 h
  exact ⟨b, rfl, trivial⟩
theorem bools_reads : Reads enc Try.prog 24 (slv (α := Bool)) (SlOk boc 1 1 (fun _ _ => True)) :=
  slice_reads Try.underlying24 (by kernel_rfl) (by kernel_rfl) (by omega) bool_reads false
theorem u8_reads : Reads enc Try.prog 5 u8c (fun _ _ => True) := fun w base sp held fuel cs x h hfit => by
  obtain ⟨n, rfl, _, hw⟩ := DataW.trod_int Try.underlying5 h
  obtain ⟨y, rfl⟩ := u8_of (bounds_u8 hw)
  exact ⟨y, rfl, trivial⟩
theorem u8s_reads : Reads enc Try.prog 58 (slv (α := UInt8)) (SlOk u8c 1 1 (fun _ _ => True)) :=
  slice_reads Try.underlying58 (by kernel_rfl) (by kernel_rfl) (by omega) u8_reads 0
end
end Go.Proofs.Ytffcnnogkpdinaa
