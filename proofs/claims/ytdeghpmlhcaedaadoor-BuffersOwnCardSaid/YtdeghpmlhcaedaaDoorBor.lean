/- What is handed in: bytes, and a key; BuffersOwn's walk of these. -/
import Derived.Test.YtdeghpmlhcaedaaDoorLd
import Derived.Test.YtdeghpmlhcaedaaDoorOz
import Derived.ProofKit
import Derived.OpenShut
namespace Go.Proofs.YtdeghpmlhcaedaaDoor
set_option linter.unusedVariables false
set_option linter.unusedSimpArgs false
open Go.ChangeShapes Go.WideShapes Go.ChangeAt Go.RowKit
section
variable {H : Type} {enc : TypeId × Value → H} {w : World} {base : Nat} {sp : Nat → Bool} {held : Bool}
theorem key_of {fuel : Nat} {cs : List Value} {x : DataW H × List MemPlace} (h : DataW.trod enc Tryd.prog w base sp held fuel 69 cs = some x) : ∃ k : Key, cs.toArray = kc k := by
  obtain ⟨xs, m, rfl, rfl, hl, hx, hi⟩ := DataW.trod_array Tryd.underlying69 h
  have hl : cs.length = 32 := hl.trans (by kernel_rfl)
  have hget : ∀ i, i < 32 → ∃ n : UInt8, cs[i]? = some (bc n) := fun i h32 => by
    have hq := hi i h32
    rw [show Tryd.prog.cellsOf 5 = 1 by kernel_rfl, Nat.mul_one, List.getElem?_eq_getElem (by omega)] at hq
    obtain ⟨n, hn, _, hw⟩ := DataW.trod_int Tryd.underlying5 hq
    have hb := bounds_u8 hw
    refine ⟨UInt8.ofNat n.toNat, ?_⟩
    rw [take1 hn]
    unfold bc
    have : ((UInt8.ofNat n.toNat).toNat : Int) = n := by
      rw [UInt8.toNat_ofNat']
      omega
    rw [this]
  let f : Value → UInt8 := fun v => match v with
    | .int _ n => UInt8.ofNat n.toNat
    | _ => 0
  refine ⟨⟨cs.map f, by simp [hl]⟩, ?_⟩
  apply Array.ext_getElem?
  intro i
  unfold kc
  simp only [zA, List.map_map, List.getElem?_map]
  by_cases h32 : i < 32
  · obtain ⟨n, hn⟩ := hget i h32
    rw [hn]
    have : bc (f (bc n)) = bc n := by
      show bc (UInt8.ofNat ((n.toNat : Int).toNat)) = bc n
      rw [Int.toNat_natCast, UInt8.ofNat_toNat]
    simp [this]
  · rw [List.getElem?_eq_none (by omega)]
    rfl
end
section
variable {H : Type} {enc : TypeId × Value → H}
theorem key_reads : Reads enc Tryd.prog 69 kc (fun _ _ => True) := fun w base sp held fuel cs x h _ => by
  obtain ⟨k, hk⟩ := key_of h
  exact ⟨k, hk, trivial⟩
theorem u8_reads : Reads enc Tryd.prog 5 uc (fun _ _ => True) := fun w base sp held fuel cs x h hfit => by
  obtain ⟨n, hn, _, hw⟩ := DataW.trod_int Tryd.underlying5 h
  obtain ⟨y, rfl⟩ := u8_of (bounds_u8 hw)
  exact ⟨y, by rw [hn]; rfl, trivial⟩
theorem u8s_reads : Reads enc Tryd.prog 31 (slv (α := UInt8)) (SlOk uc 1 1 (fun _ _ => True)) :=
  slice_reads Tryd.underlying31 (by kernel_rfl) (by kernel_rfl) (by omega) u8_reads 0
end
theorem ownLaw_s (a1 : Option Addr) (b : List UInt8) (c1 : Nat) (k : Key) (a2 : Option Addr) (d : List UInt8) (c2 : Nat) (w : World) (hb : SlAt uc 1 w a1 b) (ho1 : ∀ x ∈ b, True) (hz1 : b.length * 1 ≤ reachBytes) (hb1 : ∀ y, a1 = some y → y.block < w.heap.size ∨ b = []) (hx1 : b.length ≤ maxLen)
    (hd : SlAt uc 1 w a2 d) (ho2 : ∀ x ∈ d, True) (hz2 : d.length * 1 ≤ reachBytes) (hb2 : ∀ y, a2 = some y → y.block < w.heap.size ∨ d = []) (hx2 : d.length ≤ maxLen) (ht : TabW w) :
    Calls Tryd.prog 5 #[.slice a1 b.length c1, .agg (kc k), .slice a2 d.length c2] w fun e w' => e = .returned (.bool true) ∧ Mod (fun _ => False) w w' :=
  ownLaw_c k w hb hd (by rw [Nat.mul_one] at hz1; exact Nat.le_trans hz1 (by decide)) (by rw [Nat.mul_one] at hz2; exact Nat.le_trans hz2 (by decide)) ht
end Go.Proofs.YtdeghpmlhcaedaaDoor
