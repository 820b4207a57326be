/- What is handed in: acts, keys, numbers. -/
import Derived.Test.YtknmiojegnbakaaCoins
import Derived.ProofKit
import Derived.OpenShut
namespace Go.Proofs.Ytknmiojegnbakaa
set_option linter.unusedVariables false
set_option linter.unusedSimpArgs false
open Go.ChangeShapes Go.WideShapes Go.ChangeAt Go.RowKit
section
variable {H : Type} {enc : TypeId × Value → H} {w : World} {base : Nat} {sp : Nat → Bool} {held : Bool}
theorem key_of {fuel : Nat} {cs : List Value} {x : DataW H × List MemPlace} (h : DataW.trod enc Try.prog w base sp held fuel 28 cs = some x) : ∃ k : Key, cs.toArray = kc k := by
  obtain ⟨xs, m, rfl, rfl, hl, hx, hi⟩ := DataW.trod_array Try.underlying28 h
  have hl : cs.length = 32 := hl.trans (by kernel_rfl)
  have hget : ∀ i, i < 32 → ∃ n : UInt8, cs[i]? = some (bc n) := fun i h32 => by
    have hq := hi i h32
    rw [show Try.prog.cellsOf 5 = 1 by kernel_rfl, Nat.mul_one, List.getElem?_eq_getElem (by omega)] at hq
    obtain ⟨n, hn, _, hw⟩ := DataW.trod_int Try.underlying5 hq
    have hb := bounds_u8 hw
    refine ⟨UInt8.ofNat n.toNat, ?_⟩
    rw [take1 hn]
    unfold bc
    have : ((UInt8.ofNat n.toNat).toNat : Int) = n := by
      rw [UInt8.toNat_ofNat']
      omega
    rw [this]
  let f : Value → UInt8 := fun v => match v with
    | .int _ n => UInt8.ofNat n.toNat
    | _ => 0
  refine ⟨⟨cs.map f, by simp [hl]⟩, ?_⟩
  apply Array.ext_getElem?
  intro i
  unfold kc
  simp only [List.getElem?_toArray, List.map_map, List.getElem?_map]
  by_cases h32 : i < 32
  · obtain ⟨n, hn⟩ := hget i h32
    rw [hn]
    have : bc (f (bc n)) = bc n := by
      show bc (UInt8.ofNat ((n.toNat : Int).toNat)) = bc n
      rw [Int.toNat_natCast, UInt8.ofNat_toNat]
    simp [this]
  · rw [List.getElem?_eq_none (by omega)]
    rfl
end
section
variable {H : Type} {enc : TypeId × Value → H}
theorem u64_of {n : Int} (h : 0 ≤ n ∧ n ≤ 18446744073709551615) : ∃ x : UInt64, n = (x.toNat : Int) := by
  obtain ⟨y, hy⟩ := u64of n.toNat (by omega)
  exact ⟨y, by omega⟩
theorem u8_of {n : Int} (h : 0 ≤ n ∧ n ≤ 255) : ∃ x : UInt8, n = (x.toNat : Int) := ⟨UInt8.ofNat n.toNat, by
  rw [UInt8.toNat_ofNat']
  omega⟩
theorem key_reads : Reads enc Try.prog 28 kc (fun _ _ => True) := fun w base sp held fuel cs x h _ => by
  obtain ⟨k, hk⟩ := key_of h
  exact ⟨k, hk, trivial⟩
theorem split3 {cs : List Value} {a b c : Nat} (hl : cs.length = a + b + c) : cs = (cs.drop 0).take a ++ ((cs.drop a).take b ++ (cs.drop (a + b)).take c) := by
  have e3 : (cs.drop (a + b)).take c = cs.drop (a + b) := List.take_of_length_le (by simp [hl])
  rw [e3, ← List.drop_drop, List.take_append_drop, List.drop_zero, List.take_append_drop]
theorem acct_reads : Reads enc Try.prog 31 av (fun _ _ => True) := fun w base sp held fuel cs x h hfit => by
  obtain ⟨xs, m, rfl, rfl, hl, hx, hi⟩ := DataW.trod_struct Try.underlying31 h
  have hl : cs.length = 34 := hl.trans (by kernel_rfl)
  have hx : xs.length = 3 := hx
  have h0 : DataW.trod enc Try.prog w base sp held m 29 ((cs.drop 0).take (Try.prog.cellsOf 29)) = xs[0]? := hi 0 _ rfl
  have h1 : DataW.trod enc Try.prog w base sp held m 28 ((cs.drop 1).take (Try.prog.cellsOf 28)) = xs[1]? := hi 1 _ rfl
  have h2 : DataW.trod enc Try.prog w base sp held m 29 ((cs.drop 33).take (Try.prog.cellsOf 29)) = xs[2]? := hi 2 _ rfl
  rw [List.getElem?_eq_getElem (by omega)] at h0 h1 h2
  rw [show Try.prog.cellsOf 29 = 1 by kernel_rfl] at h0 h2
  rw [show Try.prog.cellsOf 28 = 32 by kernel_rfl] at h1
  obtain ⟨n0, hn0, _, hw0⟩ := DataW.trod_int Try.underlying29 h0
  obtain ⟨k, hk⟩ := key_of h1
  obtain ⟨n2, hn2, _, hw2⟩ := DataW.trod_int Try.underlying29 h2
  obtain ⟨x0, rfl⟩ := u64_of (bounds_u64 hw0)
  obtain ⟨x2, rfl⟩ := u64_of (bounds_u64 hw2)
  refine ⟨⟨x0, k, x2⟩, ?_, trivial⟩
  have hk' : (cs.drop 1).take 32 = (kc k).toList := by
    have := congrArg Array.toList hk
    simpa using this
  have e := split3 (a := 1) (b := 32) (c := 1) (hl.trans rfl)
  rw [hn0, hk', hn2] at e
  apply Array.toList_inj.1
  rw [av_toList]
  rw [e]
  rfl
theorem aact_reads : Reads enc Try.prog 33 ac (fun _ _ => True) := fun w base sp held fuel cs x h hfit => by
  obtain ⟨xs, m, rfl, rfl, hl, hx, hi⟩ := DataW.trod_struct Try.underlying33 h
  have hl : cs.length = 67 := hl.trans (by kernel_rfl)
  have hx : xs.length = 3 := hx
  have h0 : DataW.trod enc Try.prog w base sp held m 5 ((cs.drop 0).take (Try.prog.cellsOf 5)) = xs[0]? := hi 0 _ rfl
  have h1 : DataW.trod enc Try.prog w base sp held m 28 ((cs.drop 1).take (Try.prog.cellsOf 28)) = xs[1]? := hi 1 _ rfl
  have h2 : DataW.trod enc Try.prog w base sp held m 31 ((cs.drop 33).take (Try.prog.cellsOf 31)) = xs[2]? := hi 2 _ rfl
  rw [List.getElem?_eq_getElem (by omega)] at h0 h1 h2
  rw [show Try.prog.cellsOf 5 = 1 by kernel_rfl] at h0
  rw [show Try.prog.cellsOf 28 = 32 by kernel_rfl] at h1
  rw [show Try.prog.cellsOf 31 = 34 by kernel_rfl] at h2
  obtain ⟨n0, hn0, _, hw0⟩ := DataW.trod_int Try.underlying5 h0
  obtain ⟨k, hk⟩ := key_of h1
  have hf2 : fits Try.prog 31 (xs[2].1) := fits_field (i := 2) (d := xs[2].1) (fl := _) Try.underlying33 hfit rfl (by rw [List.getElem?_map, List.getElem?_eq_getElem (by omega)]; rfl)
  obtain ⟨y, hy, _⟩ := acct_reads _ _ _ _ _ _ _ h2 hf2
  obtain ⟨x0, rfl⟩ := u8_of (bounds_u8 hw0)
  refine ⟨⟨x0, k, y⟩, ?_, trivial⟩
  have hk' : (cs.drop 1).take 32 = (kc k).toList := by
    have := congrArg Array.toList hk
    simpa using this
  have hy' : (cs.drop 33).take 34 = (av y).toList := by
    have := congrArg Array.toList hy
    simpa using this
  have e := split3 (a := 1) (b := 32) (c := 34) (hl.trans rfl)
  rw [hn0, hk', hy'] at e
  apply Array.toList_inj.1
  rw [e]
  simp [ac]
theorem aacts_reads : Reads enc Try.prog 22 (slv (α := AAct)) (SlOk ac 67 88 (fun _ _ => True)) :=
  slice_reads Try.underlying22 (by kernel_rfl) (by kernel_rfl) (by omega) aact_reads ⟨0, key0, acct0⟩
end
end Go.Proofs.Ytknmiojegnbakaa
