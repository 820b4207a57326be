/- The statement 'RanksOne', proved: of any two ranks one goes ahead, or both are the same; of any three no order goes round. For every input; no condition. -/
import Derived.Test.YtnibhnnpjkemhaaRows
import Derived.Test.YtnibhnnpjkemhaaRread
import Derived.Test.YtnibhnnpjkemhaaRl1
import Derived.SizedLaws
import Derived.WalkKit
import Derived.ProofKit
import Derived.OpenShut
import Derived.ShutString
import Derived.ChangeOld
import Derived.Below
namespace Go.Proofs.Ytnibhnnpjkemhaa
open Go.ChangeShapes Go.WideShapes Go.ChangeAt Go.RowKit
set_option linter.unusedVariables false
theorem okWide_stRanksOne {P : Program} {w : World} {r : Reach} {base : Nat} {t : TypeId} {fs : Array Field} {v : Value} (ht : P.underlying t = some (.struct fs)) (h : Value.okWide P w r base t v) : ∃ cs, v = .agg cs := by
  simp only [Value.okWide, ht] at h
  obtain ⟨cs, h1, _⟩ := h
  exact ⟨cs, h1⟩
theorem okWide_arRanksOne {P : Program} {w : World} {r : Reach} {base : Nat} {t e : TypeId} {n : Nat} {v : Value} (ht : P.underlying t = some (.array n e)) (h : Value.okWide P w r base t v) : ∃ cs, v = .agg cs := by
  simp only [Value.okWide, ht] at h
  obtain ⟨cs, h1, _⟩ := h
  exact ⟨cs, h1⟩
theorem ownRanksOne : ownKnob Try.prog.godebug = none := by kernel_rfl
set_option maxRecDepth 100000 in
theorem ranksOne_lifted (os : Os) (started : os.Started) (H : Type) (enc : TypeId × Value → H) :
    ReturnsInHanded {} Try.checked os 8 .any (Rows.ranksOneSpec.pre6 enc Try.prog Try.f8 Rows.ranksOneRow.domain false) (Rows.ranksOneSpec.post enc Try.prog Try.f8 false true false false) := by
  refine returnsInHanded_of_change_sized (C := Try.checked) ownRanksOne started (by kernel_rfl) Try.func8
    (ChangeSpec.witness6 (enc := enc) (C := Try.checked) false ⟨#[], #[.agg (#[.int .u64 0, .int .u64 0]), .agg (#[.int .u64 0, .int .u64 0]), .agg (#[.int .u64 0, .int .u64 0])], []⟩ 8 (by kernel_rfl) (by kernel_rfl) (by kernel_rfl) (by kernel_rfl)) ?_
  intro W base args ds gs before hval0 hW hcnd hsized _
  have hval : ∀ (j : Nat) t v, Try.f8.params[j]? = some t → args[j]? = some v → Value.okWide Try.prog W .any base t v := hval0
  have hW' := hW
  obtain ⟨p, q, hA0, hV, rfl, hfz, hnd⟩ := hW
  have hA : DataW.TrodAll enc Try.prog W 0 (fun _ => true) true Try.f8.params.toList args.toList ds p := hA0
  rw [Try.params8] at hA hval
  obtain ⟨v0, vs0, d0, ds0, p0, q0, hargs, rfl, rfl, h0, r0⟩ := trodAll_cons hA
  obtain ⟨v1, vs1, d1, ds1, p1, q1, rfl, rfl, rfl, h1, r1⟩ := trodAll_cons r0
  obtain ⟨v2, vs2, d2, ds2, p2, q2, rfl, rfl, rfl, h2, r2⟩ := trodAll_cons r1
  obtain ⟨rfl, rfl, rfl⟩ := trodAll_nil r2
  obtain rfl : args = #[v0, v1, v2] := by cases args; simp_all
  obtain ⟨rfl, rfl⟩ := trodVars_none hV
  obtain ⟨cs0, rfl⟩ := okWide_stRanksOne Try.underlying30 (hval 0 30 v0 rfl rfl)
  obtain ⟨cs1, rfl⟩ := okWide_stRanksOne Try.underlying30 (hval 1 30 v1 rfl rfl)
  obtain ⟨cs2, rfl⟩ := okWide_stRanksOne Try.underlying30 (hval 2 30 v2 rfl rfl)
  have k0 := h0
  have k1 := h1
  have k2 := h2
  have lt0 : ∀ x ∈ p0, x.block < W.heap.size := by obtain ⟨m, hm⟩ := k0; exact DataW.trod_lt m _ _ _ hm
  have lt1 : ∀ x ∈ p1, x.block < W.heap.size := by obtain ⟨m, hm⟩ := k1; exact DataW.trod_lt m _ _ _ hm
  have lt2 : ∀ x ∈ p2, x.block < W.heap.size := by obtain ⟨m, hm⟩ := k2; exact DataW.trod_lt m _ _ _ hm
  obtain ⟨x0, hx0⟩ : ∃ x : Rk, cs0 = rkc x := by
    obtain ⟨fuel, hf⟩ := h0
    obtain ⟨x, hx, _⟩ := rk_reads _ _ _ _ _ _ _ hf (fits_arg hsized (j := 0) rfl rfl)
    exact ⟨x, by simpa [Value.cells] using hx⟩
  subst hx0
  obtain ⟨x1, hx1⟩ : ∃ x : Rk, cs1 = rkc x := by
    obtain ⟨fuel, hf⟩ := h1
    obtain ⟨x, hx, _⟩ := rk_reads _ _ _ _ _ _ _ hf (fits_arg hsized (j := 1) rfl rfl)
    exact ⟨x, by simpa [Value.cells] using hx⟩
  subst hx1
  obtain ⟨x2, hx2⟩ : ∃ x : Rk, cs2 = rkc x := by
    obtain ⟨fuel, hf⟩ := h2
    obtain ⟨x, hx, _⟩ := rk_reads _ _ _ _ _ _ _ hf (fits_arg hsized (j := 2) rfl rfl)
    exact ⟨x, by simpa [Value.cells] using hx⟩
  subst hx2
  clear hA0 hval0
  refine ((fun a b c w => oneLaw_c a b c w) x0 x1 x2 W).mono fun e W' ⟨he, hm⟩ => ?_
  have bel : Below W.heap.size W W' := hm.below (Nat.le_refl _) (fun _ _ h => h)
  subst he
  exact ⟨_, rfl, _, _, _, [], _, [], hW', trodAll_mk1 (shut_bool Try.underlying4 _), (trodAll_cons_mk (Below.trod laid (by kernel_rfl) (of_decide_eq_true (by kernel_rfl)) k0 bel lt0) (trodAll_cons_mk (Below.trod laid (by kernel_rfl) (of_decide_eq_true (by kernel_rfl)) k1 bel lt1) (trodAll_cons_mk (Below.trod laid (by kernel_rfl) (of_decide_eq_true (by kernel_rfl)) k2 bel lt2) trodAll_mk0))), rfl, bel.frame _, fun h => by cases h⟩
theorem ranksOne_holds : Rows.RanksOneSaid :=
  OpenClaim.holds_of_wide 8 Try.f8 rfl rfl rfl rfl rfl rfl rfl ⟨rfl, rfl, rfl, rfl, rfl⟩ rfl rfl rfl rfl rfl (by kernel_rfl) Try.func8 (by kernel_rfl)
    (of_decide_eq_true (by kernel_rfl)) (by unfold Func.isWrapper; first | (rw [if_pos (by decide +kernel)]; kernel_rfl) | (rw [if_neg (by decide +kernel)]; exact ⟨rfl, rfl⟩))
    (fun os started H enc _ => ranksOne_lifted os started H enc)
#print axioms ranksOne_holds
end Go.Proofs.Ytnibhnnpjkemhaa
