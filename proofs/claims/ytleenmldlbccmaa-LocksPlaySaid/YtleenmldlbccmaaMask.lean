/- The answer of Threads as a number, and what may be taken, as a test. -/
import Derived.Test.YtleenmldlbccmaaNew
namespace Go.Proofs.Ytleenmldlbccmaa
set_option linter.unusedVariables false
set_option linter.unusedSimpArgs false
def maskOf (p : Nat → Bool) : Nat → Nat
  | 0 => 0
  | n + 1 => maskOf p n + if p n then 2 ^ n else 0
theorem maskOf_lt (p : Nat → Bool) : ∀ n, maskOf p n < 2 ^ n
  | 0 => by simp [maskOf]
  | n + 1 => by
    have := maskOf_lt p n
    unfold maskOf
    rw [Nat.pow_succ]
    split <;> omega
theorem maskOf_testBit (p : Nat → Bool) (j : Nat) : ∀ n, (maskOf p n).testBit j = (decide (j < n) && p j)
  | 0 => by simp [maskOf]
  | n + 1 => by
    have ih := maskOf_testBit p j n
    have hlt := maskOf_lt p n
    unfold maskOf
    by_cases hp : p n
    · rw [if_pos hp, Nat.add_comm]
      rcases Nat.lt_trichotomy j n with h | h | h
      · rw [Nat.testBit_two_pow_add_gt h, ih]
        simp [h, Nat.lt_succ_of_lt h]
      · subst h
        rw [Nat.testBit_two_pow_add_eq, ih]
        simp [hp]
      · have : (2 ^ n + maskOf p n) < 2 ^ j := by
          have h1 : 2 ^ (n + 1) ≤ 2 ^ j := Nat.pow_le_pow_right (by omega) h
          rw [Nat.pow_succ] at h1
          omega
        rw [Nat.testBit_lt_two_pow this]
        have : ¬ j < n + 1 := by omega
        simp [this]
    · rw [if_neg hp, Nat.add_zero, ih]
      by_cases h : j = n
      · subst h
        simp [hp]
      · have : (j < n) = (j < n + 1) := by
          rw [eq_iff_iff]
          omega
        simp only [this]
theorem maskOf_congr {p q : Nat → Bool} : ∀ n, (∀ j, j < n → p j = q j) → maskOf p n = maskOf q n
  | 0, _ => rfl
  | n + 1, h => by
    unfold maskOf
    rw [maskOf_congr n (fun j hj => h j (by omega)), h n (by omega)]
theorem maskOf_low (p : Nat → Bool) : ∀ n, maskOf p (n + 1) = 2 * maskOf (fun j => p (j + 1)) n + if p 0 then 1 else 0
  | 0 => by simp [maskOf]
  | n + 1 => by
    rw [maskOf, maskOf_low p n]
    conv => rhs; rw [maskOf]
    by_cases h : p (n + 1) <;> simp [h, Nat.pow_succ] <;> omega
theorem maskOf_all (n : Nat) (p : Nat → Bool) (h : ∀ j, j < n → p j = true) : maskOf p n = 2 ^ n - 1 := by
  induction n with
  | zero => rfl
  | succ n ih =>
    have := Nat.two_pow_pos n
    rw [maskOf, ih (fun j hj => h j (by omega)), h n (by omega), if_pos rfl, Nat.pow_succ]
    omega
def blocksB (x : Lk) (r : Role) (j : Nat) : Bool := decide (x.1 = r.k) && !(x.2.2.val == j) && (x.2.1 || r.w)
def freeB (L : List Lk) (l : List Role) (j : Nat) : Bool := l.all fun r => L.all fun x => !(blocksB x r j)
theorem freeB_iff {L : List Lk} {l : List Role} {j : Nat} : freeB L l j = true ↔ ∀ r ∈ l, freeFor L r j := by
  unfold freeB freeFor blocksB
  simp only [List.all_eq_true, Bool.not_eq_true', Bool.and_eq_false_imp, Bool.and_eq_true, decide_eq_true_eq, Bool.not_eq_true', beq_eq_false_iff_ne, Bool.or_eq_false_iff, not_or, Bool.not_eq_true, and_imp]
theorem threads_m (t hb wb n : Nat) (L : List Lk) (a : Option Addr) (l : List Role) (c : Nat) (w : World) (h : TabAt w t hb wb n L) (hn : 1 ≤ n) (hn2 : n ≤ 64) (hl : RolesAt w a l) (hlen : l.length ≤ 1000000) :
    Calls Try.prog 13 #[.pointer (some ⟨t, 0, none⟩), .slice a l.length c] w fun e w' => e = .returned (.int .u64 (maskOf (freeB L l) n : Nat)) ∧ Mod (fun _ => False) w w' := by
  obtain ⟨x, hx, hbit, hcall⟩ := threads_T t hb wb n L a l c w h hn hn2 hl hlen
  have : x = maskOf (freeB L l) n := by
    apply Nat.eq_of_testBit_eq
    intro j
    rw [maskOf_testBit, Bool.eq_iff_iff, hbit, Bool.and_eq_true, freeB_iff]
    simp
  rw [← this]
  exact hcall
/-- Take, as one. -/
def TakePost (w : World) (t hb wb n : Nat) (L : List Lk) (l : List Role) (i : Fin 64) (e : Ending) (w' : World) : Prop :=
  if freeB L l i.val then e = .returned (.int .i64 0) ∧ TabAt w' t hb wb n (addL L l i) ∧ Mod (fun i => i = hb ∨ i = wb) w w'
  else e = .returned (.int .i64 23) ∧ Mod (fun _ => False) w w'
theorem take_m (t hb wb n : Nat) (L : List Lk) (a : Option Addr) (l : List Role) (c : Nat) (i : Fin 64) (w : World) (h : TabAt w t hb wb n L) (hn : 1 ≤ n) (hn2 : n ≤ 64) (hl : RolesAt w a l) (hlen : L.length + l.length ≤ 1000000) (hi : i.val < n) :
    Calls Try.prog 17 #[.pointer (some ⟨t, 0, none⟩), .slice a l.length c, .int .i64 (i.val : Int)] w (TakePost w t hb wb n L l i) := by
  unfold TakePost
  cases hf : freeB L l i.val with
  | true => exact take_c t hb wb n L a l c i w h hn hn2 hl hlen hi (freeB_iff.1 hf)
  | false => exact take_state t hb wb n L a l c i.val w h hn hn2 hl (by omega) hi (fun hh => by rw [freeB_iff.2 hh] at hf; cases hf)
/-- One role in a block of its own. -/
theorem RolesAt.one {w : World} {b : Nat} {C : Array Value} {U : TypeId} {fr} (h : w.heap[b]? = some (.cells C U fr)) (r : Role) (hC : C = rc r.k r.s r.w) : RolesAt w (some ⟨b, 0, none⟩) [r] := by
  subst hC
  refine .inr ⟨b, 0, _, U, fr, rfl, h, fun i r' hr => ?_⟩
  cases i with
  | zero =>
    simp at hr
    subst hr
    exact ⟨by simpa using rc_all r.k r.s r.w, by rw [rc_size]; omega⟩
  | succ i => simp at hr
def relB (L : List Lk) (l : List Role) (i : Fin 64) : Bool := (locksOf l i).all fun x => decide ((locksOf l i).count x ≤ L.count x)
theorem relB_iff {L : List Lk} {l : List Role} {i : Fin 64} : relB L l i = true ↔ ∀ x, (locksOf l i).count x ≤ L.count x := by
  unfold relB
  simp only [List.all_eq_true, decide_eq_true_eq]
  constructor
  · intro h x
    by_cases hx : x ∈ locksOf l i
    · exact h x hx
    · rw [List.count_eq_zero_of_not_mem hx]
      omega
  · exact fun h x _ => h x
theorem release_m (t hb wb n : Nat) (L : List Lk) (a : Option Addr) (l : List Role) (c : Nat) (i : Fin 64) (w : World) (h : TabAt w t hb wb n L) (hl : RolesAt w a l) (hL : L.length ≤ 1000000) (hlen : l.length ≤ 1000000) (hi : i.val < n) :
    Calls Try.prog 15 #[.pointer (some ⟨t, 0, none⟩), .slice a l.length c, .int .i64 (i.val : Int)] w fun e w' =>
      if relB L l i then e = .returned (.int .i64 0) ∧ TabAt w' t hb wb n (subL L l i) ∧ Mod (fun i => i = hb ∨ i = wb) w w'
      else e = .returned (.int .i64 11) ∧ Mod (fun _ => False) w w' := by
  refine (release_c t hb wb n L a l c i w h hl hL hlen hi).mono ?_
  rintro e w' (⟨rfl, ⟨x, hx⟩, hm⟩ | ⟨rfl, hx, hT, hm⟩)
  · rw [if_neg (fun hh => by have := relB_iff.1 hh x; omega)]
    exact ⟨rfl, hm⟩
  · rw [if_pos (relB_iff.2 hx)]
    exact ⟨rfl, hT, hm⟩
end Go.Proofs.Ytleenmldlbccmaa
