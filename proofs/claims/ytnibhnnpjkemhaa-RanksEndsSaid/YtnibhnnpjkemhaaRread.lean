/- What is handed in: ranks, acts, bools, small numbers. -/
import Derived.Test.YtnibhnnpjkemhaaRf1
import Derived.ProofKit
import Derived.OpenShut
namespace Go.Proofs.Ytnibhnnpjkemhaa
set_option linter.unusedVariables false
set_option linter.unusedSimpArgs false
open Go.ChangeShapes Go.WideShapes Go.ChangeAt Go.RowKit
theorem u64_of {n : Int} (h : 0 ≤ n ∧ n ≤ 18446744073709551615) : ∃ x : UInt64, n = (x.toNat : Int) := ⟨UInt64.ofNat n.toNat, by
  rw [UInt64.toNat_ofNat']
  omega⟩
theorem u8_of {n : Int} (h : 0 ≤ n ∧ n ≤ 255) : ∃ x : UInt8, n = (x.toNat : Int) := ⟨UInt8.ofNat n.toNat, by
  rw [UInt8.toNat_ofNat']
  omega⟩
theorem i64_of {n : Int} (h : -9223372036854775808 ≤ n ∧ n ≤ 9223372036854775807) : ∃ x : Int64, n = x.toInt := ⟨Int64.ofInt n, by
  rw [Int64.toInt_ofInt_of_le (by simpa using h.1) (by omega)]⟩
theorem laid : laidOutB Try.prog = true := by kernel_rfl
/-- An act. -/
structure RAct where
  what : UInt8
  r : Rk
  id : Int64
def rac (x : RAct) : Array Value := #[.int .u8 (x.what.toNat : Int), .int .u64 (x.r.p.toNat : Int), .int .u64 (x.r.n.toNat : Int), .int .i64 x.id.toInt]
def boc (b : Bool) : Array Value := #[.bool b]
def u8c (b : UInt8) : Array Value := #[.int .u8 (b.toNat : Int)]
section
variable {H : Type} {enc : TypeId × Value → H}
set_option maxRecDepth 20000 in
theorem rk_reads : Reads enc Try.prog 30 rkc (fun _ _ => True) := fun w base sp held fuel cs x h hfit => by
  obtain ⟨xs, m, rfl, rfl, hl, hx, hi⟩ := DataW.trod_struct Try.underlying30 h
  have hl : cs.length = 2 := hl.trans (by kernel_rfl)
  have hx : xs.length = 2 := hx
  have h0 : DataW.trod enc Try.prog w base sp held m 28 ((cs.drop 0).take (Try.prog.cellsOf 28)) = xs[0]? := hi 0 _ rfl
  have h1 : DataW.trod enc Try.prog w base sp held m 28 ((cs.drop 1).take (Try.prog.cellsOf 28)) = xs[1]? := hi 1 _ rfl
  rw [List.getElem?_eq_getElem (by omega)] at h0 h1
  rw [show Try.prog.cellsOf 28 = 1 by kernel_rfl] at h0 h1
  obtain ⟨n0, hn0, _, hw0⟩ := DataW.trod_int Try.underlying28 h0
  obtain ⟨n1, hn1, _, hw1⟩ := DataW.trod_int Try.underlying28 h1
  obtain ⟨x0, rfl⟩ := u64_of (bounds_u64 hw0)
  obtain ⟨x1, rfl⟩ := u64_of (bounds_u64 hw1)
  refine ⟨⟨x0, x1⟩, ?_, trivial⟩
  match cs, hl with
  | [a, b], _ =>
    simp at hn0 hn1
    subst hn0
    subst hn1
    rfl
set_option maxRecDepth 20000 in
theorem ract_reads : Reads enc Try.prog 32 rac (fun _ _ => True) := fun w base sp held fuel cs x h hfit => by
  obtain ⟨xs, m, rfl, rfl, hl, hx, hi⟩ := DataW.trod_struct Try.underlying32 h
  have hl : cs.length = 4 := hl.trans (by kernel_rfl)
  have hx : xs.length = 3 := hx
  have h0 : DataW.trod enc Try.prog w base sp held m 5 ((cs.drop 0).take (Try.prog.cellsOf 5)) = xs[0]? := hi 0 _ rfl
  have h1 : DataW.trod enc Try.prog w base sp held m 30 ((cs.drop 1).take (Try.prog.cellsOf 30)) = xs[1]? := hi 1 _ rfl
  have h2 : DataW.trod enc Try.prog w base sp held m 3 ((cs.drop 3).take (Try.prog.cellsOf 3)) = xs[2]? := hi 2 _ rfl
  rw [List.getElem?_eq_getElem (by omega)] at h0 h1 h2
  rw [show Try.prog.cellsOf 5 = 1 by kernel_rfl] at h0
  rw [show Try.prog.cellsOf 30 = 2 by kernel_rfl] at h1
  rw [show Try.prog.cellsOf 3 = 1 by kernel_rfl] at h2
  obtain ⟨n0, hn0, _, hw0⟩ := DataW.trod_int Try.underlying5 h0
  have hf1 : fits Try.prog 30 (xs[1].1) := fits_field (i := 1) (d := xs[1].1) (fl := _) Try.underlying32 hfit rfl (by rw [List.getElem?_map, List.getElem?_eq_getElem (by omega)]; rfl)
  obtain ⟨y, hy, _⟩ := rk_reads _ _ _ _ _ _ _ h1 hf1
  obtain ⟨n2, hn2, _, hw2⟩ := DataW.trod_int Try.underlying3 h2
  obtain ⟨x0, rfl⟩ := u8_of (bounds_u8 hw0)
  obtain ⟨x2, rfl⟩ := i64_of (bounds_i64 hw2)
  refine ⟨⟨x0, y, x2⟩, ?_, trivial⟩
  obtain ⟨a, b, c, d, rfl⟩ : ∃ a b c d, cs = [a, b, c, d] := by
    match cs, hl with
    | [a, b, c, d], _ => exact ⟨a, b, c, d, rfl⟩
  simp [rkc] at hn0 hn2 hy
  obtain ⟨rfl, rfl⟩ := hy
  subst hn0
  subst hn2
  rfl
theorem racts_reads : Reads enc Try.prog 22 (slv (α := RAct)) (SlOk rac 4 32 (fun _ _ => True)) :=
  slice_reads Try.underlying22 (by kernel_rfl) (by kernel_rfl) (by omega) ract_reads ⟨0, rk0, 0⟩
theorem rks_reads : Reads enc Try.prog 52 (slv (α := Rk)) (SlOk rkc 2 16 (fun _ _ => True)) :=
  slice_reads Try.underlying52 (by kernel_rfl) (by kernel_rfl) (by omega) rk_reads rk0
theorem bo_reads : Reads enc Try.prog 4 boc (fun _ _ => True) := fun w base sp held fuel cs x h hfit => by
  obtain ⟨b, hb, _⟩ := DataW.trod_bool Try.underlying4 h
  exact ⟨b, by rw [hb]; rfl, trivial⟩
theorem bos_reads : Reads enc Try.prog 53 (slv (α := Bool)) (SlOk boc 1 1 (fun _ _ => True)) :=
  slice_reads Try.underlying53 (by kernel_rfl) (by kernel_rfl) (by omega) bo_reads false
theorem u8_reads : Reads enc Try.prog 5 u8c (fun _ _ => True) := fun w base sp held fuel cs x h hfit => by
  obtain ⟨n, hn, _, hw⟩ := DataW.trod_int Try.underlying5 h
  obtain ⟨y, rfl⟩ := u8_of (bounds_u8 hw)
  exact ⟨y, by rw [hn]; rfl, trivial⟩
theorem u8s_reads : Reads enc Try.prog 58 (slv (α := UInt8)) (SlOk u8c 1 1 (fun _ _ => True)) :=
  slice_reads Try.underlying58 (by kernel_rfl) (by kernel_rfl) (by omega) u8_reads 0
end
end Go.Proofs.Ytnibhnnpjkemhaa
