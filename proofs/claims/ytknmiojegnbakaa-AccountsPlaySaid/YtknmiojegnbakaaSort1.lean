/- Sorting a row of at most one element. -/
import Derived.Test.YtknmiojegnbakaaSt2
namespace Go.Proofs.Ytknmiojegnbakaa
open Go.RowKit
set_option linter.unusedSimpArgs false
set_option linter.unusedVariables false
set_option maxRecDepth 40000 in
theorem len64_a (w : World) : Calls Try.prog 50 #[.int .u64 0] w fun e w' => (∃ z : Int, e = .returned (.int .i64 z)) ∧ w' = w := by
  go_enter Try.func50, Try.ntmps50
  go_wp2_with fail
  go_ret
  exact ⟨⟨_, rfl⟩, rfl⟩
set_option maxRecDepth 40000 in
theorem len_a (w : World) : Calls Try.prog 38 #[.int .u64 0] w fun e w' => (∃ z : Int, e = .returned (.int .i64 z)) ∧ w' = w := by
  go_enter Try.func38, Try.ntmps38
  go_wp2_with fail
  go_at_call 50
  refine (len64_a w).mono ?_
  rintro e w2 ⟨⟨z, rfl⟩, rfl⟩
  go_wp2_with fail
  go_ret
  exact ⟨⟨_, rfl⟩, rfl⟩
set_option maxRecDepth 40000 in
theorem len64_b (w : World) : Calls Try.prog 50 #[.int .u64 1] w fun e w' => (∃ z : Int, e = .returned (.int .i64 z)) ∧ w' = w := by
  go_enter Try.func50, Try.ntmps50
  go_wp2_with fail
  go_ret
  exact ⟨⟨_, rfl⟩, rfl⟩
set_option maxRecDepth 40000 in
theorem len_b (w : World) : Calls Try.prog 38 #[.int .u64 1] w fun e w' => (∃ z : Int, e = .returned (.int .i64 z)) ∧ w' = w := by
  go_enter Try.func38, Try.ntmps38
  go_wp2_with fail
  go_at_call 50
  refine (len64_b w).mono ?_
  rintro e w2 ⟨⟨z, rfl⟩, rfl⟩
  go_wp2_with fail
  go_ret
  exact ⟨⟨_, rfl⟩, rfl⟩
theorem len_c (n : Nat) (hn : n ≤ 1) (w : World) : Calls Try.prog 38 #[.int .u64 ((n : Nat) : Int)] w fun e w' => (∃ z : Int, e = .returned (.int .i64 z)) ∧ w' = w := by
  rcases (by omega : n = 0 ∨ n = 1) with rfl | rfl
  · exact len_a w
  · exact len_b w
abbrev insF := 41
abbrev pdqF := 37
abbrev sortF := 26
theorem ins_1 (s c : Value) (n : Nat) (hn : n ≤ 1) (z : Value) (w : World) : Calls Try.prog 41 #[s, .int .i64 0, .int .i64 (n : Int), c] w fun e w' => e = .returned (.tuple #[]) ∧ w' = w := by
  go_enter Try.func41, Try.ntmps41
  go_wp2_with fail
  go_loopw [8] (fun s8 ws => s8 = .int .i64 1 ∧ ws = w) (fun _ _ => 0)
  case atStart => exact ⟨rfl, rfl⟩
  case round =>
    obtain ⟨rfl, rfl⟩ := hrel
    have hd : decide ((1 : Int) < (n : Int)) = false := decide_eq_false (by omega)
    go_wp2_with fail
    go_end0
    exact ⟨rfl, rfl⟩
theorem pdq_1 (s c : Value) (n : Nat) (hn : n ≤ 1) (z : Value) (w : World) : Calls Try.prog 37 #[s, .int .i64 0, .int .i64 (n : Int), z, c] w fun e w' => e = .returned (.tuple #[]) ∧ w' = w := by
  go_enter Try.func37, Try.ntmps37
  go_wp2_with fail
  go_loopw [1, 2] (fun s1 s2 ws => s1 = .int .i64 0 ∧ s2 = .int .i64 (n : Int) ∧ ws = w) (fun _ _ _ => 0)
  case atStart => exact ⟨rfl, rfl, rfl⟩
  case round =>
    obtain ⟨rfl, rfl, rfl⟩ := hrel
    have hw : IntKind.i64.wrap ((n : Int) - 0) = (n : Int) := by
      rw [IntKind.wrap_i64]
      omega
    have hd : decide ((n : Int) ≤ 12) = true := decide_eq_true (by omega)
    go_wp2_with fail
    go_at_call 41
    refine (ins_1 _ _ n hn z _).mono ?_
    rintro e w2 ⟨rfl, rfl⟩
    go_wp2_with fail
    exact bodyPost_ret (v := .tuple #[]) (results_none rfl _ _ _) rfl ⟨rfl, rfl⟩
theorem sort_1 (s c : Value) (a : Option Addr) (n cp : Nat) (hn : n ≤ 1) (w : World) : Calls Try.prog 26 #[.slice a n cp, c] w fun e w' => e = .returned (.tuple #[]) ∧ w' = w := by
  go_enter Try.func26, Try.ntmps26
  have hw : IntKind.u64.wrap (n : Int) = (n : Int) := by
    rw [IntKind.wrap_u64]
    omega
  go_wp2_with fail
  go_at_call 38
  refine (len_c n hn _).mono ?_
  rintro e w2 ⟨⟨z, rfl⟩, rfl⟩
  go_wp2_with fail
  go_at_call 37
  refine (pdq_1 _ _ n hn (.int .i64 z) _).mono ?_
  rintro e w2 ⟨rfl, rfl⟩
  go_wp2_with fail
  go_end0
  exact ⟨rfl, rfl⟩
/-- The block is none that a string shares. -/
def Fz (w : World) (a : Option Addr) : Prop := ∀ p o, a = some ⟨p, o, none⟩ → ∃ C U, w.heap[p]? = some (.cells C U (0, 0))
section
variable {α : Type} {P : Program} {T E : TypeId} {f : α → Array Value} {n B : Nat}
theorem sl_clip (hT : ElT P T E f n B) {g o cap len : Nat} (hk : len ≤ cap) (w : World) :
    (Instr.sliceAt T (.slice (some ⟨g, o, none⟩) len cap) none (some (.int .i64 (len : Int))) (some (.int .i64 (len : Int)))).run P w = .ok (.slice (some ⟨g, o, none⟩) len len) w := by
  obtain ⟨i0, z, hi, hz, hz1, hz2, hz3⟩ := hT.info
  have hadd : (⟨g, o, none⟩ : Addr).add (0 * n) = ⟨g, o, none⟩ := by
    unfold Addr.add
    rw [Nat.zero_mul, if_pos rfl]
  have hp : (0 : Int) ≤ (len : Int) ∧ (len : Int) ≤ (cap : Int) := ⟨by omega, by omega⟩
  have hp2 : (0 : Int) ≤ (len : Int) ∧ (len : Int) ≤ (len : Int) := ⟨by omega, by omega⟩
  simp only [Instr.sliceAt, Instr.slice, Instr.sliceBounds, Instr.sliceBound, asIntOf, sizeOf, typeInfo, run_underlying hT.u, hi, Sem.run_bind, Sem.run_pure, Result.andThen_ok]
  rw [if_pos hp]
  simp only [Sem.run_pure, Result.andThen_ok, Go.program, Sem.run, hi, hz1, Option.map_some, Int.toNat_natCast, hadd, Nat.sub_zero, ite_self, hp2, and_self, if_true]
theorem sl_clip0 (hT : ElT P T E f n B) (w : World) :
    (Instr.sliceAt T (.slice none 0 0) none (some (.int .i64 0)) (some (.int .i64 0))).run P w = .ok (.slice none 0 0) w := by
  obtain ⟨i0, z, hi, hz, hz1, hz2, hz3⟩ := hT.info
  simp only [Instr.sliceAt, Instr.slice, Instr.sliceBounds, Instr.sliceBound, asIntOf, sizeOf, typeInfo, run_underlying hT.u, hi, Sem.run_bind, Sem.run_pure, Result.andThen_ok]
  rw [if_pos ⟨by omega, by omega⟩]
  simp [Sem.run_pure, Result.andThen_ok, Go.program, Sem.run, hi, hz1]
theorem clip_own (hT : ElT P T E f n B) {w : World} {base : Nat} {v : Value} {l : List α} (h : SlOwn f n E w base v l) :
    ∃ a c, v = .slice a l.length c ∧ (∀ w2, (Instr.sliceAt T v none (some (.int .i64 (l.length : Int))) (some (.int .i64 (l.length : Int)))).run P w2 = .ok (.slice a l.length l.length) w2) ∧ SlAt f n w a l ∧ (∀ x, a = some x → base ≤ x.block ∧ v.ownBlock = some x.block) ∧ Fz w a := by
  obtain ⟨a, c, h1, h2, h3, h4⟩ := h.at hT
  rcases h.2 with ⟨rfl, hn⟩ | ⟨g, cap, cur, rfl, hb, hg, hnc, hcm, hcs, htake⟩
  · obtain rfl : l = [] := List.eq_nil_of_length_eq_zero hn
    injection h1 with e1 e2 e3
    subst e1
    exact ⟨none, 0, rfl, fun w2 => sl_clip0 hT w2, h2, fun x hx => ⟨(h3 x hx).1, (h3 x hx).2.2⟩, fun p o e => by cases e⟩
  · injection h1 with e1 e2 e3
    subst e1
    exact ⟨_, cap, rfl, fun w2 => sl_clip hT hnc w2, h2, fun x hx => ⟨(h3 x hx).1, (h3 x hx).2.2⟩, fun p o e => by cases e; exact ⟨_, _, hg⟩⟩
end
end Go.Proofs.Ytknmiojegnbakaa
