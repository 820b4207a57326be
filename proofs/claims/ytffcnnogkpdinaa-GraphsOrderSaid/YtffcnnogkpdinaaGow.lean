/- Graphs: small lemmas for GraphsOrder. -/
import Derived.Test.YtffcnnogkpdinaaGbw
import Derived.Test.YtffcnnogkpdinaaGop
namespace Go.Proofs.Ytffcnnogkpdinaa
open Go.RowKit
open Go.ChangeMaps (setBlock)
set_option linter.unusedSimpArgs false
set_option linter.unusedVariables false
def slLen : Value → Nat
  | .slice _ n _ => n
  | _ => 0
theorem readyF_c {g q : Nat} {K : List Rn} {T : Nat → Prop} {w : World} (hA : RAt g q K T w) (L : List Int64) (hL : readyR K = L) (n : Nat) (hn : L.length = n) :
    Calls Try.prog 13 #[ptrV g] w fun e w' => ∃ a, e = .returned (.slice a n n) ∧ SlAt ic 1 w' a L ∧ (∀ x, a = some x → w.heap.size ≤ x.block) ∧ Mod (fun _ => False) w w' := by
  subst hL
  subst hn
  exact (readyR_c hA).mono fun e w' ⟨a, h1, h2, _, h4, h3⟩ => ⟨a, h1, h2, h4, h3⟩
theorem int_at2 {w : World} {a : Option Addr} {l : List Int64} (h : SlAt ic 1 w a l) {i k : Nat} {x y : Int64} (hx : l[i]? = some x) (hy : l[k]? = some y) : ∃ b o C U fr, a = some ⟨b, o, none⟩ ∧ w.heap[b]? = some (.cells C U fr) ∧ C[o + i]? = some (.int .i64 x.toInt) ∧ C[o + k]? = some (.int .i64 y.toInt) := by
  obtain ⟨b, o, C, U, fr, rfl, hk, h1⟩ := int_at h hx
  obtain ⟨b2, o2, C2, U2, fr2, e, hk2, h2⟩ := int_at h hy
  cases e
  rw [hk] at hk2
  cases hk2
  exact ⟨_, _, _, _, _, rfl, hk, h1, h2⟩
theorem ac_at2 {w : World} {a : Option Addr} {l : List Ac} (h : SlAt acv 3 w a l) {i k : Nat} {x y : Ac} (hx : l[i]? = some x) (hy : l[k]? = some y) : ∃ b o C U fr, a = some ⟨b, o, none⟩ ∧ w.heap[b]? = some (.cells C U fr) ∧ C[o + i * 3 + 2]? = some (.slice x.s.a x.s.l.length x.s.c) ∧ C[o + k * 3 + 2]? = some (.slice y.s.a y.s.l.length y.s.c) := by
  obtain ⟨b, o, C, U, fr, rfl, hk, _, _, h1⟩ := ac_at h hx
  obtain ⟨b2, o2, C2, U2, fr2, e, hk2, _, _, h2⟩ := ac_at h hy
  cases e
  rw [hk] at hk2
  cases hk2
  exact ⟨_, _, _, _, _, rfl, hk, h1, h2⟩
theorem u8_at {w : World} {a : Option Addr} {l : List UInt8} (h : SlAt u8c 1 w a l) {i : Nat} {x : UInt8} (hx : l[i]? = some x) : ∃ b o C U fr, a = some ⟨b, o, none⟩ ∧ w.heap[b]? = some (.cells C U fr) ∧ C[o + i]? = some (.int .u8 (x.toNat : Int)) := by
  obtain ⟨b, o, C, U, fr, rfl, hk, he, _⟩ := h.block hx
  refine ⟨b, o, C, U, fr, rfl, hk, ?_⟩
  have := cellC he (j := 0) (v := .int .u8 (x.toNat : Int)) rfl
  simpa using this
end Go.Proofs.Ytffcnnogkpdinaa
