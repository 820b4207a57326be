/- The plain law of math/bits.OnesCount64: as many as there are bits. -/
import Derived.Test.YtleenmldlbccmaaLib
import Derived.Laws.BitsAllLaws
namespace Go.Proofs.Ytleenmldlbccmaa
set_option linter.unusedVariables false
set_option linter.unusedSimpArgs false

/-- Bytes, the least first. -/
def val : List Nat → Nat
  | [] => 0
  | r :: l => r + 256 * val l
def bytes : Nat → Nat → List Nat
  | 0, _ => []
  | n + 1, x => x % 256 :: bytes n (x / 256)
theorem bytes_val : ∀ (n x : Nat), x < 256 ^ n → val (bytes n x) = x
  | 0, x, h => by simp at h; simp [bytes, val, h]
  | n + 1, x, h => by
    have : x / 256 < 256 ^ n := by rw [Nat.pow_succ] at h; omega
    simp only [bytes, val, bytes_val n (x / 256) this]
    omega
theorem bytes_lt : ∀ (n x : Nat), ∀ r ∈ bytes n x, r < 256
  | 0, _, r, h => by cases h
  | n + 1, x, r, h => by
    rcases List.mem_cons.1 h with rfl | h
    · omega
    · exact bytes_lt n _ r h
theorem bytes_len : ∀ (n x : Nat), (bytes n x).length = n
  | 0, _ => rfl
  | n + 1, x => by simp [bytes, bytes_len n]
theorem val_add (f g : Nat → Nat) : ∀ l : List Nat, val (l.map f) + val (l.map g) = val (l.map fun r => f r + g r)
  | [] => rfl
  | r :: l => by
    have := val_add f g l
    simp only [List.map_cons, val]
    omega
theorem and_dec (q r M m : Nat) (hr : r < 256) (hm : m < 256) : (r + 256 * q) &&& (m + 256 * M) = (r &&& m) + 256 * (q &&& M) := by
  have e1 : r + 256 * q = 2 ^ 8 * q + r := by omega
  have e2 : m + 256 * M = 2 ^ 8 * M + m := by omega
  have hlt : r &&& m < 2 ^ 8 := Nat.and_lt_two_pow _ (by omega)
  have e3 : (r &&& m) + 256 * (q &&& M) = 2 ^ 8 * (q &&& M) + (r &&& m) := by omega
  rw [e1, e2, e3]
  apply Nat.eq_of_testBit_eq
  intro i
  rw [Nat.testBit_and, Nat.testBit_two_pow_mul_add _ (by omega), Nat.testBit_two_pow_mul_add _ (by omega), Nat.testBit_two_pow_mul_add _ hlt]
  split <;> simp
theorem and_mod (k a y m : Nat) (hy : y < 2 ^ k) (hm : m < 2 ^ k) : (y + 2 ^ k * a) &&& m = y &&& m := by
  apply Nat.eq_of_testBit_eq
  intro i
  rw [Nat.add_comm, Nat.testBit_and, Nat.testBit_two_pow_mul_add _ hy, Nat.testBit_and]
  split
  · rfl
  · rename_i hi
    rw [Nat.testBit_lt_two_pow (x := m) (Nat.lt_of_lt_of_le hm (Nat.pow_le_pow_right (by omega) (by omega)))]
    simp
def M (m : Nat) : Nat → Nat
  | 0 => 0
  | n + 1 => m + 256 * M m n
theorem and_val (m : Nat) (hm : m < 256) : ∀ l : List Nat, (∀ r ∈ l, r < 256) → val l &&& M m l.length = val (l.map (· &&& m))
  | [], _ => by simp [val, M]
  | r :: l, h => by
    simp only [val, List.length_cons, M, List.map_cons]
    rw [and_dec _ _ _ _ (h r (by simp)) hm, and_val m hm l (fun r hr => h r (List.mem_cons_of_mem _ hr))]
/-- A shift by s bits within a byte, under a mask that keeps what comes from the next byte out. -/
theorem shr_val (s k m : Nat) (hs : 2 ^ s * 2 ^ k = 256) (hm : m < 2 ^ k) : ∀ l : List Nat, (∀ r ∈ l, r < 256) → (val l / 2 ^ s) &&& M m l.length = val (l.map (fun r => r / 2 ^ s &&& m))
  | [], _ => by simp [val, M]
  | r :: l, h => by
    have ih := shr_val s k m hs hm l (fun r hr => h r (List.mem_cons_of_mem _ hr))
    have hr := h r (by simp)
    simp only [val, List.length_cons, M, List.map_cons]
    have hs0 : 0 < 2 ^ s := Nat.two_pow_pos s
    have hk0 : 0 < 2 ^ k := Nat.two_pow_pos k
    have hm2 : m < 256 := by
      have : 2 ^ k ≤ 2 ^ s * 2 ^ k := Nat.le_mul_of_pos_left _ hs0
      omega
    have hq : r / 2 ^ s < 2 ^ k := by
      rw [Nat.div_lt_iff_lt_mul hs0, Nat.mul_comm, hs]; exact hr
    have e : (r + 256 * val l) / 2 ^ s = (r / 2 ^ s + 2 ^ k * (val l % 2 ^ s)) + 256 * (val l / 2 ^ s) := by
      rw [show r + 256 * val l = r + 2 ^ s * (2 ^ k * val l) by rw [← Nat.mul_assoc, hs], Nat.add_mul_div_left _ _ hs0]
      have h1 := Nat.div_add_mod (val l) (2 ^ s)
      have h2 : 2 ^ k * val l = 2 ^ k * (2 ^ s * (val l / 2 ^ s)) + 2 ^ k * (val l % 2 ^ s) := by rw [← Nat.mul_add, h1]
      have h3 : 2 ^ k * (2 ^ s * (val l / 2 ^ s)) = 256 * (val l / 2 ^ s) := by rw [← Nat.mul_assoc, Nat.mul_comm (2 ^ k), hs]
      omega
    have hlo : r / 2 ^ s + 2 ^ k * (val l % 2 ^ s) < 256 := by
      have h1 : val l % 2 ^ s < 2 ^ s := Nat.mod_lt _ hs0
      have h2 : 2 ^ k * (val l % 2 ^ s + 1) ≤ 2 ^ k * 2 ^ s := Nat.mul_le_mul_left _ h1
      rw [Nat.mul_comm (2 ^ k) (2 ^ s), hs, Nat.mul_add] at h2
      omega
    rw [e, and_dec _ _ _ _ hlo hm2, and_mod k _ _ _ hq hm, ih]
theorem sum3_val : ∀ l : List Nat, (∀ r ∈ l, r / 16 ≤ 4 ∧ r % 16 ≤ 4 ∧ r < 256) → (val l / 16 + val l) &&& M 15 l.length = val (l.map (fun r => r / 16 + r % 16)) ∧ val l % 16 ≤ 4
  | [], _ => by simp [val, M]
  | r :: l, h => by
    obtain ⟨ih, hlo⟩ := sum3_val l (fun r hr => h r (List.mem_cons_of_mem _ hr))
    obtain ⟨h1, h2, h3⟩ := h r (by simp)
    simp only [val, List.length_cons, M, List.map_cons]
    have e : (r + 256 * val l) / 16 + (r + 256 * val l) = (r / 16 + r + 16 * (val l % 16)) + 256 * (val l / 16 + val l) := by omega
    have e2 : r / 16 + r + 16 * (val l % 16) = (r / 16 + r % 16) + 2 ^ 4 * (r / 16 + val l % 16) := by omega
    rw [e, and_dec _ _ _ _ (by omega) (by omega), e2, and_mod 4 _ _ _ (by omega) (by omega), ih]
    refine ⟨?_, by omega⟩
    congr 1
    have : (r / 16 + r % 16) % 2 ^ 4 = (r / 16 + r % 16) &&& (2 ^ 4 - 1) := (Nat.and_two_pow_sub_one_eq_mod _ 4).symm
    have h4 : (r / 16 + r % 16) % 2 ^ 4 = r / 16 + r % 16 := Nat.mod_eq_of_lt (by omega)
    rw [← h4, this]
    simp [Nat.and_assoc]

/-- The bits of a number. -/
def bitsOf (n x : Nat) : List Nat := (List.range n).filter (fun i => x.testBit i)
def g1 (r : Nat) : Nat := (r / 2 &&& 85) + (r &&& 85)
def g2 (r : Nat) : Nat := (r / 4 &&& 51) + (r &&& 51)
def g3 (r : Nat) : Nat := r / 16 + r % 16
theorem byte_facts : ∀ r : Fin 256, g1 r < 256 ∧ g2 (g1 r) / 16 ≤ 4 ∧ g2 (g1 r) % 16 ≤ 4 ∧ g2 (g1 r) < 256 ∧ g3 (g2 (g1 r)) = (bitsOf 8 r).length ∧ g3 (g2 (g1 r)) ≤ 8 := by decide +kernel
theorem bitsOf_cons (n r q : Nat) (hr : r < 256) : (bitsOf (8 + n) (r + 256 * q)).length = (bitsOf 8 r).length + (bitsOf n q).length := by
  unfold bitsOf
  rw [List.range_add, List.filter_append, List.length_append]
  have e : r + 256 * q = 2 ^ 8 * q + r := by omega
  congr 1
  · congr 1
    apply List.filter_congr
    intro i hi
    rw [e, Nat.testBit_two_pow_mul_add _ (by omega), if_pos (by simpa using hi)]
  · rw [List.filter_map, List.length_map]
    congr 1
    apply List.filter_congr
    intro i _
    simp only [Function.comp]
    rw [e, Nat.testBit_two_pow_mul_add _ (by omega), if_neg (by omega)]
    congr 1
    omega
theorem sum_bits : ∀ (n x : Nat), ((bytes n x).map (fun r => g3 (g2 (g1 r)))).sum = (bitsOf (8 * n) x).length
  | 0, x => rfl
  | n + 1, x => by
    have hx : x = x % 256 + 256 * (x / 256) := by omega
    have h1 := (byte_facts ⟨x % 256, by omega⟩).2.2.2.2.1
    rw [show 8 * (n + 1) = 8 + 8 * n by omega]
    conv => rhs; rw [hx]
    rw [bitsOf_cons _ _ _ (by omega), ← sum_bits n]
    simp only [bytes, List.map_cons, List.sum_cons]
    rw [← h1]

/-- The last three sums, of eight bytes that are at most 8. -/
theorem pop_sums (p0 p1 p2 p3 p4 p5 p6 p7 : Nat) (h0 : p0 ≤ 8) (h1 : p1 ≤ 8) (h2 : p2 ≤ 8) (h3 : p3 ≤ 8) (h4 : p4 ≤ 8) (h5 : p5 ≤ 8) (h6 : p6 ≤ 8) (h7 : p7 ≤ 8) (s3 s4 s5 s6 : Nat)
    (e3 : s3 = p0 + 256 * (p1 + 256 * (p2 + 256 * (p3 + 256 * (p4 + 256 * (p5 + 256 * (p6 + 256 * p7))))))) (e4 : s4 = s3 + s3 / 256) (e5 : s5 = s4 + s4 / 65536) (e6 : s6 = s5 + s5 / 4294967296) :
    s3 < 1152921504606846976 ∧ s4 < 2305843009213693952 ∧ s5 < 4611686018427387904 ∧ s6 < 9223372036854775808 ∧ s6 % 128 = p0 + p1 + p2 + p3 + p4 + p5 + p6 + p7 := by
  have d3 : s3 / 256 = p1 + 256 * (p2 + 256 * (p3 + 256 * (p4 + 256 * (p5 + 256 * (p6 + 256 * p7))))) := by rw [e3]; omega
  have f4 : s4 = (p0 + p1) + 256 * ((p1 + p2) + 256 * ((p2 + p3) + 256 * ((p3 + p4) + 256 * ((p4 + p5) + 256 * ((p5 + p6) + 256 * ((p6 + p7) + 256 * p7)))))) := by omega
  have b3 : s3 < 1152921504606846976 := by omega
  clear e3 d3 e4
  have d4 : s4 / 65536 = (p2 + p3) + 256 * ((p3 + p4) + 256 * ((p4 + p5) + 256 * ((p5 + p6) + 256 * ((p6 + p7) + 256 * p7)))) := by rw [f4]; omega
  have b4 : s4 < 2305843009213693952 := by omega
  have f5 : s5 = (p0 + p1 + p2 + p3) + 256 * ((p1 + p2 + p3 + p4) + 256 * ((p2 + p3 + p4 + p5) + 256 * ((p3 + p4 + p5 + p6) + 256 * ((p4 + p5 + p6 + p7) + 256 * ((p5 + p6 + p7) + 256 * ((p6 + p7) + 256 * p7)))))) := by omega
  clear f4 d4 e5
  have d5 : s5 / 4294967296 = (p4 + p5 + p6 + p7) + 256 * ((p5 + p6 + p7) + 256 * ((p6 + p7) + 256 * p7)) := by rw [f5]; omega
  have b5 : s5 < 4611686018427387904 := by omega
  have f6 : s6 = (p0 + p1 + p2 + p3 + p4 + p5 + p6 + p7) + 256 * ((p1 + p2 + p3 + p4 + (p5 + p6 + p7)) + 256 * ((p2 + p3 + p4 + p5 + (p6 + p7)) + 256 * ((p3 + p4 + p5 + p6 + p7) + 256 * ((p4 + p5 + p6 + p7) + 256 * ((p5 + p6 + p7) + 256 * ((p6 + p7) + 256 * p7)))))) := by omega
  clear f5 d5 e6
  exact ⟨b3, b4, b5, by omega, by omega⟩
theorem sum_bound (a0 a1 a2 a3 a4 a5 a6 a7 : Nat) (h0 : a0 < 256) (h1 : a1 < 256) (h2 : a2 < 256) (h3 : a3 < 256) (h4 : a4 < 256) (h5 : a5 < 256) (h6 : a6 < 256) (h7 : a7 / 16 ≤ 4) (s : Nat)
    (e : s = a0 + 256 * (a1 + 256 * (a2 + 256 * (a3 + 256 * (a4 + 256 * (a5 + 256 * (a6 + 256 * a7))))))) : s < 9223372036854775808 := by
  have h8 : a7 < 80 := by omega
  clear h7
  omega
theorem eight : ∀ (l : List Nat), l.length = 8 → ∃ r0 r1 r2 r3 r4 r5 r6 r7, l = [r0, r1, r2, r3, r4, r5, r6, r7]
  | [r0, r1, r2, r3, r4, r5, r6, r7], _ => ⟨_, _, _, _, _, _, _, _, rfl⟩
theorem val_bound : ∀ (l : List Nat) (B : Nat), (∀ r ∈ l, r < 256) → val l < 256 ^ l.length
  | [], _, _ => by simp [val]
  | r :: l, B, h => by
    have := val_bound l B (fun r hr => h r (List.mem_cons_of_mem _ hr))
    have := h r (by simp)
    simp only [val, List.length_cons, Nat.pow_succ]
    omega
theorem pop_list (l : List Nat) (hlen : l.length = 8) (hb : ∀ r ∈ l, r < 256) :
    (val l / 2 &&& M 85 8) + (val l &&& M 85 8) = val (l.map g1) ∧
    (val (l.map g1) / 4 &&& M 51 8) + (val (l.map g1) &&& M 51 8) = val ((l.map g1).map g2) ∧
    (val ((l.map g1).map g2) / 16 + val ((l.map g1).map g2)) &&& M 15 8 = val (((l.map g1).map g2).map g3) := by
  have hB : ∀ r ∈ l, g1 r < 256 ∧ g2 (g1 r) / 16 ≤ 4 ∧ g2 (g1 r) % 16 ≤ 4 ∧ g2 (g1 r) < 256 ∧ g3 (g2 (g1 r)) ≤ 8 := fun r hr => by
    have := byte_facts ⟨r, hb r hr⟩
    exact ⟨this.1, this.2.1, this.2.2.1, this.2.2.2.1, this.2.2.2.2.2⟩
  have hb1 : ∀ r ∈ l.map g1, r < 256 := fun r hr => by
    obtain ⟨q, hq, rfl⟩ := List.mem_map.1 hr
    exact (hB q hq).1
  have hl1 : (l.map g1).length = 8 := by rw [List.length_map, hlen]
  have hl2 : ((l.map g1).map g2).length = 8 := by rw [List.length_map, hl1]
  refine ⟨?_, ?_, ?_⟩
  · have h1 := shr_val 1 7 85 (by decide) (by decide) l hb
    have h2 := and_val 85 (by decide) l hb
    rw [hlen] at h1 h2
    rw [show val l / 2 = val l / 2 ^ 1 by rfl, h1, h2, val_add]
    rfl
  · have h1 := shr_val 2 6 51 (by decide) (by decide) _ hb1
    have h2 := and_val 51 (by decide) _ hb1
    rw [hl1] at h1 h2
    rw [show val (l.map g1) / 4 = val (l.map g1) / 2 ^ 2 by rfl, h1, h2, val_add]
    rfl
  · have h1 := (sum3_val ((l.map g1).map g2) (fun r hr => by
      obtain ⟨q, hq, rfl⟩ := List.mem_map.1 hr
      obtain ⟨p, hp, rfl⟩ := List.mem_map.1 hq
      have := hB p hp
      exact ⟨this.2.1, this.2.2.1, this.2.2.2.1⟩)).1
    rw [hl2] at h1
    exact h1
theorem m85 : M 85 8 = 6148914691236517205 := by decide
theorem m51 : M 51 8 = 3689348814741910323 := by decide
theorem m15 : M 15 8 = 1085102592571150095 := by decide
/-- All of it on a number of 64 bits: each step as a natural number. -/
theorem pop_steps (x : Nat) (hx : x < 18446744073709551616) : ∃ s1 s2 s3 s4 s5 s6 : Nat,
    (x / 2 &&& M 85 8) + (x &&& M 85 8) = s1 ∧ s1 < 18446744073709551616 ∧
    (s1 / 4 &&& M 51 8) + (s1 &&& M 51 8) = s2 ∧ s2 < 9223372036854775808 ∧
    (s2 / 16 + s2) &&& M 15 8 = s3 ∧ s3 < 1152921504606846976 ∧ s4 = s3 + s3 / 256 ∧ s4 < 2305843009213693952 ∧ s5 = s4 + s4 / 65536 ∧ s5 < 4611686018427387904 ∧ s6 = s5 + s5 / 4294967296 ∧ s6 < 9223372036854775808 ∧ s6 % 128 = (bitsOf 64 x).length := by
  have h8 : val (bytes 8 x) = x := bytes_val 8 x (by simpa using hx)
  have hlen := bytes_len 8 x
  have hsum := sum_bits 8 x
  have hb := bytes_lt 8 x
  generalize bytes 8 x = l at h8 hlen hsum hb
  obtain ⟨e1, e2, e3⟩ := pop_list l hlen hb
  rw [h8] at e1
  have hB : ∀ r ∈ l, g1 r < 256 ∧ g2 (g1 r) / 16 ≤ 4 ∧ g3 (g2 (g1 r)) ≤ 8 ∧ g2 (g1 r) < 256 := fun r hr => by
    have := byte_facts ⟨r, hb r hr⟩
    exact ⟨this.1, this.2.1, this.2.2.2.2.2, this.2.2.2.1⟩
  have b1 : val (l.map g1) < 18446744073709551616 := by
    have := val_bound (l.map g1) 0 (fun r hr => by
      obtain ⟨q, hq, rfl⟩ := List.mem_map.1 hr
      exact (hB q hq).1)
    rw [List.length_map, hlen] at this
    simpa using this
  obtain ⟨s1, hs1⟩ : ∃ s1, s1 = val (l.map g1) := ⟨_, rfl⟩
  obtain ⟨s2, hs2⟩ : ∃ s2, s2 = val ((l.map g1).map g2) := ⟨_, rfl⟩
  obtain ⟨s3, hs3⟩ : ∃ s3, s3 = val (((l.map g1).map g2).map g3) := ⟨_, rfl⟩
  rw [← hs1] at e1 e2 b1
  rw [← hs2] at e2 e3
  rw [← hs3] at e3
  have key : s2 < 9223372036854775808 ∧ s3 < 1152921504606846976 ∧ s3 + s3 / 256 < 2305843009213693952 ∧ (s3 + s3 / 256) + (s3 + s3 / 256) / 65536 < 4611686018427387904 ∧
      ((s3 + s3 / 256) + (s3 + s3 / 256) / 65536) + ((s3 + s3 / 256) + (s3 + s3 / 256) / 65536) / 4294967296 < 9223372036854775808 ∧
      (((s3 + s3 / 256) + (s3 + s3 / 256) / 65536) + ((s3 + s3 / 256) + (s3 + s3 / 256) / 65536) / 4294967296) % 128 = (bitsOf 64 x).length := by
    clear e1 e2 e3 hs1 b1 h8
    obtain ⟨r0, r1, r2, r3, r4, r5, r6, r7, rfl⟩ : ∃ r0 r1 r2 r3 r4 r5 r6 r7, l = [r0, r1, r2, r3, r4, r5, r6, r7] := eight l hlen
    simp only [List.map_cons, List.map_nil, List.sum_cons, List.sum_nil, Nat.reduceMul] at hsum
    simp only [List.map_cons, List.map_nil, val, Nat.mul_zero, Nat.add_zero] at hs2 hs3
    have t0 := hB r0 (by simp)
    have t1 := hB r1 (by simp)
    have t2 := hB r2 (by simp)
    have t3 := hB r3 (by simp)
    have t4 := hB r4 (by simp)
    have t5 := hB r5 (by simp)
    have t6 := hB r6 (by simp)
    have t7 := hB r7 (by simp)
    clear hB hlen hb
    have s2b : s2 < 9223372036854775808 := sum_bound _ _ _ _ _ _ _ _ t0.2.2.2 t1.2.2.2 t2.2.2.2 t3.2.2.2 t4.2.2.2 t5.2.2.2 t6.2.2.2 t7.2.1 s2 hs2
    obtain ⟨z3, z4, z5, z6, z7⟩ := pop_sums _ _ _ _ _ _ _ _ t0.2.2.1 t1.2.2.1 t2.2.2.1 t3.2.2.1 t4.2.2.1 t5.2.2.1 t6.2.2.1 t7.2.2.1 s3 _ _ _ hs3 rfl rfl rfl
    refine ⟨s2b, z3, z4, z5, z6, ?_⟩
    clear hs2 hs3 t0 t1 t2 t3 t4 t5 t6 t7 s2b z3 z4 z5 z6
    rw [z7, ← hsum]
    generalize g3 (g2 (g1 r0)) = a0
    generalize g3 (g2 (g1 r1)) = a1
    generalize g3 (g2 (g1 r2)) = a2
    generalize g3 (g2 (g1 r3)) = a3
    generalize g3 (g2 (g1 r4)) = a4
    generalize g3 (g2 (g1 r5)) = a5
    generalize g3 (g2 (g1 r6)) = a6
    generalize g3 (g2 (g1 r7)) = a7
    simp only [Nat.add_zero, Nat.add_assoc]
  obtain ⟨k1, k2, k3, k4, k5, k6⟩ := key
  exact ⟨s1, s2, s3, _, _, _, e1, b1, e2, k1, e3, k2, rfl, k3, rfl, k4, rfl, k5, k6⟩
end Go.Proofs.Ytleenmldlbccmaa
