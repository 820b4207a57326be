/- The walks of math/bits.OnesCount64 and locks.alone. -/
import Derived.Test.YtleenmldlbccmaaLk
import Derived.Test.YtleenmldlbccmaaPop
import Derived.WalkLawsBesides
import Derived.Lib.Hide
namespace Go.Proofs.Ytleenmldlbccmaa
open Go.RowKit
set_option linter.unusedSimpArgs false
set_option linter.unusedVariables false
theorem ret_int {k : IntKind} {a b : Int} (h : a = b) : Ending.returned (.int k a) = .returned (.int k b) := by rw [h]
theorem u64_nat {n : Nat} {z : Int} (h : z = (n : Int)) (hn : n < 18446744073709551616) : IntKind.u64.wrap z = (n : Int) := by
  subst h
  rw [IntKind.wrap_u64]
  omega
theorem ofInt_i64 (a : Nat) (ha : a < 9223372036854775808) : (BitVec.ofInt 64 (a : Int)).toNat = a := by
  rw [BitVec.ofInt_natCast, BitVec.toNat_ofNat]; exact Nat.mod_eq_of_lt (by omega)
theorem i64_and (a b : Nat) (ha : a < 9223372036854775808) (hb : b < 9223372036854775808) : bits .and .i64 (a : Int) (b : Int) = ((a &&& b : Nat) : Int) := by
  have hx : a &&& b < 2 ^ 63 := Nat.and_lt_two_pow _ (by omega)
  show IntKind.i64.wrap ((BitVec.ofInt 64 (a : Int) &&& BitVec.ofInt 64 (b : Int)).toNat : Int) = _
  rw [BitVec.toNat_and, ofInt_i64 a ha, ofInt_i64 b hb, IntKind.wrap_i64]
  omega
set_option maxHeartbeats 1600000 in
theorem onesCount_c (x : Nat) (hx : x < 18446744073709551616) (w : World) :
    Calls Try.prog 30 #[.int .u64 (x : Int)] w fun e w' => e = .returned (.int .i64 ((bitsOf 64 x).length : Int)) ∧ Mod (fun _ => False) w w' := by
  obtain ⟨s1, s2, s3, s4, s5, s6, e1, b1, e2, b2, e3, b3, e4, b4, e5, b5, e6, b6, e7⟩ := pop_steps x hx
  have q1 : bits .and .u64 ((x : Int) / 2) 6148914691236517205 = ((x / 2 &&& M 85 8 : Nat) : Int) := by
    have := u64_and_nat (x / 2) 6148914691236517205 (by omega) (by omega)
    rw [m85]; simpa using this
  have q2 : bits .and .u64 (x : Int) 6148914691236517205 = ((x &&& M 85 8 : Nat) : Int) := by
    have := u64_and_nat x 6148914691236517205 (by omega) (by omega)
    rw [m85]; simpa using this
  generalize (x / 2 &&& M 85 8) = A at *
  generalize (x &&& M 85 8) = B at *
  have q3 : IntKind.u64.wrap ((A : Int) + (B : Int)) = (s1 : Int) := u64_nat (by omega) b1
  have q4 : bits .and .u64 ((s1 : Int) / 4) 3689348814741910323 = ((s1 / 4 &&& M 51 8 : Nat) : Int) := by
    have := u64_and_nat (s1 / 4) 3689348814741910323 (by omega) (by omega)
    rw [m51]; simpa using this
  have q5 : bits .and .u64 (s1 : Int) 3689348814741910323 = ((s1 &&& M 51 8 : Nat) : Int) := by
    have := u64_and_nat s1 3689348814741910323 (by omega) (by omega)
    rw [m51]; simpa using this
  generalize (s1 / 4 &&& M 51 8) = C at *
  generalize (s1 &&& M 51 8) = D at *
  have q6 : IntKind.u64.wrap ((C : Int) + (D : Int)) = (s2 : Int) := u64_nat (by omega) (by omega)
  obtain ⟨E, hE⟩ : ∃ E, E = s2 / 16 + s2 := ⟨_, rfl⟩
  have q7 : IntKind.u64.wrap ((s2 : Int) / 16 + (s2 : Int)) = (E : Int) := u64_nat (by omega) (by omega)
  have q8 : bits .and .u64 (E : Int) 1085102592571150095 = (s3 : Int) := by
    have := u64_and_nat E 1085102592571150095 (by omega) (by omega)
    rw [← e3, m15, ← hE]; simpa using this
  have q9 : IntKind.u64.wrap ((s3 : Int) + (s3 : Int) / 256) = (s4 : Int) := u64_nat (by omega) (by omega)
  have q10 : IntKind.u64.wrap ((s4 : Int) + (s4 : Int) / 65536) = (s5 : Int) := u64_nat (by omega) (by omega)
  have q11 : IntKind.u64.wrap ((s5 : Int) + (s5 : Int) / 4294967296) = (s6 : Int) := u64_nat (by omega) (by omega)
  have q12 : IntKind.i64.wrap (s6 : Int) = (s6 : Int) := IntWalk.i64_in _ (by omega)
  have H7 := Lib.hid e7
  have B6 := b6
  clear e1 e2 e3 e4 e5 e6 e7 b1 b2 b3 b4 b5 hE hx
  go_enter Try.func30, Try.ntmps30
  go_wp2
  go_ret
  refine ⟨ret_int ?_, Mod.refl _ _⟩
  rw [← H7.out]
  have h1 := i64_and s6 127 (by omega) (by omega)
  rw [show (127 : Nat) = 2 ^ 7 - 1 by rfl, Nat.and_two_pow_sub_one_eq_mod] at h1
  exact h1
/-- Those that may still. -/
def aloneN (all some : Nat) : Nat :=
  if (bitsOf 64 some).length = 0 then all else if (bitsOf 64 some).length = 1 then all &&& some else 0
set_option maxHeartbeats 1600000 in
theorem alone_c (a s : Nat) (ha : a < 18446744073709551616) (hs : s < 18446744073709551616) (w : World) :
    Calls Try.prog 25 #[.int .u64 (a : Int), .int .u64 (s : Int)] w fun e w' => e = .returned (.int .u64 (aloneN a s : Int)) ∧ Mod (fun _ => False) w w' := by
  have hand := u64_and_nat a s ha hs
  have hc := onesCount_c s hs
  have HC := Lib.hid hc
  obtain ⟨c, hcn⟩ : ∃ c, c = (bitsOf 64 s).length := ⟨_, rfl⟩
  unfold aloneN
  rw [← hcn]
  generalize (a &&& s) = z at *
  rcases Nat.lt_or_ge c 1 with h0 | h0
  · obtain rfl : c = 0 := by omega
    have HN := Lib.hid hcn
    clear hc hcn
    go_enter Try.func25, Try.ntmps25
    go_wp2_with (go_at_call 30; refine (HC.out _).mono ?_; rintro e w' ⟨rfl, hm⟩; rw [← HN.out])
    go_ret
    exact ⟨rfl, hm⟩
  · by_cases h1 : c = 1
    · subst h1
      have HN := Lib.hid hcn
      clear hc hcn h0
      go_enter Try.func25, Try.ntmps25
      go_wp2_with (go_at_call 30; refine (HC.out _).mono ?_; rintro e w' ⟨rfl, hm⟩; rw [← HN.out])
      go_ret
      exact ⟨rfl, hm⟩
    · have HN := Lib.hid hcn
      have t0 : ((c : Int) == 0) = false := by simp; omega
      have t1 : ((c : Int) == 1) = false := by simp; omega
      have t2 : ¬ c = 0 := by omega
      clear hc hcn
      go_enter Try.func25, Try.ntmps25
      go_wp2_with (go_at_call 30; refine (HC.out _).mono ?_; rintro e w' ⟨rfl, hm⟩; rw [← HN.out])
      go_ret
      exact ⟨rfl, hm⟩
end Go.Proofs.Ytleenmldlbccmaa
