/- The statement 'RanksOrder', proved: in whatever order ids are pushed, and dropped and pushed again, the list is the same. For every input; no condition. -/
import Derived.Test.YtnibhnnpjkemhaaRows
import Derived.Test.YtnibhnnpjkemhaaRor
import Derived.SizedLaws
import Derived.WalkKit
import Derived.ProofKit
import Derived.OpenShut
import Derived.ShutString
import Derived.ChangeOld
import Derived.Below
namespace Go.Proofs.Ytnibhnnpjkemhaa
open Go.ChangeShapes Go.WideShapes Go.ChangeAt Go.RowKit
set_option linter.unusedVariables false
theorem ownRanksOrder : ownKnob Try.prog.godebug = none := by kernel_rfl
set_option maxRecDepth 100000 in
theorem ranksOrder_lifted (os : Os) (started : os.Started) (H : Type) (enc : TypeId × Value → H) :
    ReturnsInHanded {} Try.checked os 7 .any (Rows.ranksOrderSpec.pre6 enc Try.prog Try.f7 Rows.ranksOrderRow.domain false) (Rows.ranksOrderSpec.post enc Try.prog Try.f7 false true false false) := by
  refine returnsInHanded_of_change_sized (C := Try.checked) ownRanksOrder started (by kernel_rfl) Try.func7
    (ChangeSpec.witness6 (enc := enc) (C := Try.checked) false ⟨#[], #[.slice none 0 0, .int .u8 0, .slice none 0 0], []⟩ 8 (by kernel_rfl) (by kernel_rfl) (by kernel_rfl) (by kernel_rfl)) ?_
  intro W base args ds gs before hval0 hW hcnd hsized _
  have hval : ∀ (j : Nat) t v, Try.f7.params[j]? = some t → args[j]? = some v → Value.okWide Try.prog W .any base t v := hval0
  have hW' := hW
  obtain ⟨p, q, hA0, hV, rfl, hfz, hnd⟩ := hW
  have hA : DataW.TrodAll enc Try.prog W 0 (fun _ => true) true Try.f7.params.toList args.toList ds p := hA0
  rw [Try.params7] at hA hval
  obtain ⟨v0, vs0, d0, ds0, p0, q0, hargs, rfl, rfl, h0, r0⟩ := trodAll_cons hA
  obtain ⟨v1, vs1, d1, ds1, p1, q1, rfl, rfl, rfl, h1, r1⟩ := trodAll_cons r0
  obtain ⟨v2, vs2, d2, ds2, p2, q2, rfl, rfl, rfl, h2, r2⟩ := trodAll_cons r1
  obtain ⟨rfl, rfl, rfl⟩ := trodAll_nil r2
  obtain rfl : args = #[v0, v1, v2] := by cases args; simp_all
  obtain ⟨rfl, rfl⟩ := trodVars_none hV
  obtain ⟨a0, len0, cap0, rfl⟩ := okWide_slice Try.underlying52 (hval 0 52 v0 rfl rfl)
  obtain ⟨n1, rfl, rfl, rfl, w1⟩ := open_int Try.underlying5 (hval 1 5 v1 rfl rfl) h1
  obtain ⟨a2, len2, cap2, rfl⟩ := okWide_slice Try.underlying58 (hval 2 58 v2 rfl rfl)
  have k0 := h0
  have k1 := h1
  have k2 := h2
  have lt0 : ∀ x ∈ p0, x.block < W.heap.size := by obtain ⟨m, hm⟩ := k0; exact DataW.trod_lt m _ _ _ hm
  have lt2 : ∀ x ∈ p2, x.block < W.heap.size := by obtain ⟨m, hm⟩ := k2; exact DataW.trod_lt m _ _ _ hm
  obtain ⟨l0, hl0_0, hl0⟩ : ∃ l : List Rk, len0 = l.length ∧ SlAt rkc 2 W a0 l := by
    obtain ⟨fuel, hf⟩ := h0
    obtain ⟨s, hs, h1, h2, h3, h4, h5⟩ := rks_reads _ _ _ _ _ _ _ hf (fits_arg hsized (j := 0) rfl rfl)
    have hs : [Value.slice a0 len0 cap0] = [.slice s.a s.l.length s.c] := congrArg Array.toList hs
    simp only [List.cons.injEq, Value.slice.injEq, and_true] at hs
    obtain ⟨rfl, rfl, rfl⟩ := hs
    exact ⟨s.l, rfl, h1⟩
  subst hl0_0
  obtain ⟨x1, rfl⟩ := u8_of (bounds_u8 w1)
  obtain ⟨l2, hl2_0, hl2⟩ : ∃ l : List UInt8, len2 = l.length ∧ SlAt u8c 1 W a2 l := by
    obtain ⟨fuel, hf⟩ := h2
    obtain ⟨s, hs, h1, h2, h3, h4, h5⟩ := u8s_reads _ _ _ _ _ _ _ hf (fits_arg hsized (j := 2) rfl rfl)
    have hs : [Value.slice a2 len2 cap2] = [.slice s.a s.l.length s.c] := congrArg Array.toList hs
    simp only [List.cons.injEq, Value.slice.injEq, and_true] at hs
    obtain ⟨rfl, rfl, rfl⟩ := hs
    exact ⟨s.l, rfl, h1⟩
  subst hl2_0
  clear hA0 hval0
  refine ((fun a l c x a2 e c2 w h h2 => orderLaw_c a l c x a2 e c2 w h h2) a0 l0 cap0 x1 a2 l2 cap2 W hl0 hl2).mono fun e W' ⟨he, hm⟩ => ?_
  have bel : Below W.heap.size W W' := hm.below (Nat.le_refl _) (fun _ _ h => h)
  subst he
  exact ⟨_, rfl, _, _, _, [], _, [], hW', trodAll_mk1 (shut_bool Try.underlying4 _), (trodAll_cons_mk (Below.trod laid (by kernel_rfl) (of_decide_eq_true (by kernel_rfl)) k0 bel lt0) (trodAll_cons_mk (shut_int Try.underlying5 w1) (trodAll_cons_mk (Below.trod laid (by kernel_rfl) (of_decide_eq_true (by kernel_rfl)) k2 bel lt2) trodAll_mk0))), rfl, bel.frame _, fun h => by cases h⟩
theorem ranksOrder_holds : Rows.RanksOrderSaid :=
  OpenClaim.holds_of_wide 7 Try.f7 rfl rfl rfl rfl rfl rfl rfl ⟨rfl, rfl, rfl, rfl, rfl⟩ rfl rfl rfl rfl rfl (by kernel_rfl) Try.func7 (by kernel_rfl)
    (of_decide_eq_true (by kernel_rfl)) (by unfold Func.isWrapper; first | (rw [if_pos (by decide +kernel)]; kernel_rfl) | (rw [if_neg (by decide +kernel)]; exact ⟨rfl, rfl⟩))
    (fun os started H enc _ => ranksOrder_lifted os started H enc)
#print axioms ranksOrder_holds
end Go.Proofs.Ytnibhnnpjkemhaa
