/- The statement 'GraphsOrder', proved: however those that are ready are popped, till there are none, all come, each once; of any two that conflict the one that was put first comes first; no two that are ready at once conflict. For every input; no condition. -/
import Derived.Test.YtffcnnogkpdinaaRows
import Derived.Test.YtffcnnogkpdinaaGor
import Derived.SizedLaws
import Derived.WalkKit
import Derived.ProofKit
import Derived.OpenShut
import Derived.ShutString
import Derived.ChangeOld
import Derived.Below
namespace Go.Proofs.Ytffcnnogkpdinaa
open Go.ChangeShapes Go.WideShapes Go.ChangeAt Go.RowKit
set_option linter.unusedVariables false
theorem ownGraphsOrder : ownKnob Try.prog.godebug = none := by kernel_rfl
set_option maxRecDepth 100000 in
theorem graphsOrder_lifted (os : Os) (started : os.Started) (H : Type) (enc : TypeId × Value → H) :
    ReturnsInHanded {} Try.checked os 6 .any (Rows.graphsOrderSpec.pre6 enc Try.prog Try.f6 Rows.graphsOrderRow.domain false) (Rows.graphsOrderSpec.post enc Try.prog Try.f6 false true false false) := by
  refine returnsInHanded_of_change_sized (C := Try.checked) ownGraphsOrder started (by kernel_rfl) Try.func6
    (ChangeSpec.witness6 (enc := enc) (C := Try.checked) false ⟨#[], #[.slice none 0 0, .slice none 0 0], []⟩ 8 (by kernel_rfl) (by kernel_rfl) (by kernel_rfl) (by kernel_rfl)) ?_
  intro W base args ds gs before hval0 hW hcnd hsized _
  have hval : ∀ (j : Nat) t v, Try.f6.params[j]? = some t → args[j]? = some v → Value.okWide Try.prog W .any base t v := hval0
  have hW' := hW
  obtain ⟨p, q, hA0, hV, rfl, hfz, hnd⟩ := hW
  have hA : DataW.TrodAll enc Try.prog W 0 (fun _ => true) true Try.f6.params.toList args.toList ds p := hA0
  rw [Try.params6] at hA hval
  obtain ⟨v0, vs0, d0, ds0, p0, q0, hargs, rfl, rfl, h0, r0⟩ := trodAll_cons hA
  obtain ⟨v1, vs1, d1, ds1, p1, q1, rfl, rfl, rfl, h1, r1⟩ := trodAll_cons r0
  obtain ⟨rfl, rfl, rfl⟩ := trodAll_nil r1
  obtain rfl : args = #[v0, v1] := by cases args; simp_all
  obtain ⟨rfl, rfl⟩ := trodVars_none hV
  obtain ⟨a0, len0, cap0, rfl⟩ := okWide_slice Try.underlying39 (hval 0 39 v0 rfl rfl)
  obtain ⟨a1, len1, cap1, rfl⟩ := okWide_slice Try.underlying58 (hval 1 58 v1 rfl rfl)
  have k0 := h0
  have k1 := h1
  have lt0 : ∀ x ∈ p0, x.block < W.heap.size := by obtain ⟨m, hm⟩ := k0; exact DataW.trod_lt m _ _ _ hm
  have lt1 : ∀ x ∈ p1, x.block < W.heap.size := by obtain ⟨m, hm⟩ := k1; exact DataW.trod_lt m _ _ _ hm
  obtain ⟨l0, hl0_0, hl0, ho0, hz0, hb0, hx0⟩ : ∃ l : List Ac, len0 = l.length ∧ SlAt acv 3 W a0 l ∧ (∀ x ∈ l, AcOk W x) ∧ l.length * 40 ≤ reachBytes ∧ (∀ y, a0 = some y → y.block < W.heap.size ∨ l = []) ∧ l.length ≤ maxLen := by
    obtain ⟨fuel, hf⟩ := h0
    obtain ⟨s, hs, h1, h2, h3, h4, h5⟩ := acts_reads _ _ _ _ _ _ _ hf (fits_arg hsized (j := 0) rfl rfl)
    have hs : [Value.slice a0 len0 cap0] = [.slice s.a s.l.length s.c] := congrArg Array.toList hs
    simp only [List.cons.injEq, Value.slice.injEq, and_true] at hs
    obtain ⟨rfl, rfl, rfl⟩ := hs
    exact ⟨s.l, rfl, h1, h2, h3, h4, h5⟩
  subst hl0_0
  obtain ⟨l1, hl1_0, hl1, ho1, hz1, hb1, hx1⟩ : ∃ l : List UInt8, len1 = l.length ∧ SlAt u8c 1 W a1 l ∧ (∀ x ∈ l, (fun _ _ => True) W x) ∧ l.length * 1 ≤ reachBytes ∧ (∀ y, a1 = some y → y.block < W.heap.size ∨ l = []) ∧ l.length ≤ maxLen := by
    obtain ⟨fuel, hf⟩ := h1
    obtain ⟨s, hs, h1, h2, h3, h4, h5⟩ := u8s_reads _ _ _ _ _ _ _ hf (fits_arg hsized (j := 1) rfl rfl)
    have hs : [Value.slice a1 len1 cap1] = [.slice s.a s.l.length s.c] := congrArg Array.toList hs
    simp only [List.cons.injEq, Value.slice.injEq, and_true] at hs
    obtain ⟨rfl, rfl, rfl⟩ := hs
    exact ⟨s.l, rfl, h1, h2, h3, h4, h5⟩
  subst hl1_0
  clear hA0 hval0
  refine (orderLaw_s a0 l0 cap0 a1 l1 cap1 W hl0 ho0 hz0 hb0 hx0 hl1 ho1 hz1 hb1 hx1).mono fun e W' ⟨he, hm⟩ => ?_
  have bel : Below W.heap.size W W' := hm.below (Nat.le_refl _) (fun _ _ h => h)
  subst he
  exact ⟨_, rfl, _, _, _, [], _, [], hW', trodAll_mk1 (shut_bool Try.underlying4 _), (trodAll_cons_mk (Below.trod laid (by kernel_rfl) (of_decide_eq_true (by kernel_rfl)) k0 bel lt0) (trodAll_cons_mk (Below.trod laid (by kernel_rfl) (of_decide_eq_true (by kernel_rfl)) k1 bel lt1) trodAll_mk0)), rfl, bel.frame _, fun h => by cases h⟩
theorem graphsOrder_holds : Rows.GraphsOrderSaid :=
  OpenClaim.holds_of_wide 6 Try.f6 rfl rfl rfl rfl rfl rfl rfl ⟨rfl, rfl, rfl, rfl, rfl⟩ rfl rfl rfl rfl rfl (by kernel_rfl) Try.func6 (by kernel_rfl)
    (of_decide_eq_true (by kernel_rfl)) (by unfold Func.isWrapper; first | (rw [if_pos (by decide +kernel)]; kernel_rfl) | (rw [if_neg (by decide +kernel)]; exact ⟨rfl, rfl⟩))
    (fun os started H enc _ => graphsOrder_lifted os started H enc)
#print axioms graphsOrder_holds
end Go.Proofs.Ytffcnnogkpdinaa
