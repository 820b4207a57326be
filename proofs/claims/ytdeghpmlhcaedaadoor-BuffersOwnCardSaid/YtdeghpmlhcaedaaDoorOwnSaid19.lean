/- The statement 'BuffersOwn', proved: what is kept is a copy, all of it: whatever is done to what was handed in, or answered, changes nothing. For every input; the table of math/bits as the program's text lays it. -/
import Derived.Test.YtdeghpmlhcaedaaDoorRows
import Derived.Test.YtdeghpmlhcaedaaDoorLd
import Derived.Test.YtdeghpmlhcaedaaDoorCards
import Derived.Test.YtdeghpmlhcaedaaDoorTie
import Derived.Test.YtdeghpmlhcaedaaDoorBor
import Derived.SizedLaws
import Derived.WalkKit
import Derived.ProofKit
import Derived.OpenShut
import Derived.ShutString
import Derived.ChangeOld
import Derived.Below
import Derived.LaidMore
import Derived.Stop.Joined
import Derived.SevenTiedAt
namespace Go.Proofs.YtdeghpmlhcaedaaDoor
open Go.ChangeShapes Go.WideShapes Go.ChangeAt Go.RowKit
set_option linter.unusedVariables false
theorem okWide_stBuffersOwn {P : Program} {w : World} {r : Reach} {base : Nat} {t : TypeId} {fs : Array Field} {v : Value} (ht : P.underlying t = some (.struct fs)) (h : Value.okWide P w r base t v) : ∃ cs, v = .agg cs := by
  simp only [Value.okWide, ht] at h
  obtain ⟨cs, h1, _⟩ := h
  exact ⟨cs, h1⟩
theorem okWide_arBuffersOwn {P : Program} {w : World} {r : Reach} {base : Nat} {t e : TypeId} {n : Nat} {v : Value} (ht : P.underlying t = some (.array n e)) (h : Value.okWide P w r base t v) : ∃ cs, v = .agg cs := by
  simp only [Value.okWide, ht] at h
  obtain ⟨cs, h1, _⟩ := h
  exact ⟨cs, h1⟩
theorem ownBuffersOwn : ownKnob Tryd.prog.godebug = none := by kernel_rfl
set_option maxRecDepth 100000 in
theorem buffersOwn_lifted (os : Os) (started : os.Started) (H : Type) (enc : TypeId × Value → H) :
    ReturnsInHanded {} Tryd.checked os 5 .any (fun w args => (Rows.buffersOwnSpec.pre enc Tryd.prog Tryd.f5 [] false w args ∧ laidMetH Tryd.prog LD w) ∧ sizedMet enc Tryd.prog Tryd.f5 (OpenSpec.ofChange Rows.buffersOwnSpec) false w args) (Rows.buffersOwnSpec.post enc Tryd.prog Tryd.f5 false true false false) := by
  refine returnsInHanded_of_change_and (C := Tryd.checked) (X := fun w _ => laidMetH Tryd.prog LD w) (fun _ _ _ hh h => h.of_heap hh) ownBuffersOwn started (by kernel_rfl) Tryd.func5
    (ChangeSpec.witness_shaped (enc := enc) (C := Tryd.checked) (os := os) (X := fun w _ => laidMetH Tryd.prog LD w) false (World.doorLaid Tryd.prog 400 os) #[.slice none 0 0, .agg (Array.replicate 32 (.int .u8 0)), .slice none 0 0] 8 rfl (World.shaped_of_RefB (by kernel_rfl) (by kernel_rfl)) (by kernel_rfl) (by kernel_rfl) (by kernel_rfl) (door_met os _)) ?_
  intro W base args ds gs before hval0 hW hcnd hsized hL _
  have hval : ∀ (j : Nat) t v, Tryd.f5.params[j]? = some t → args[j]? = some v → Value.okWide Tryd.prog W .any base t v := hval0
  have hW' := hW
  obtain ⟨p, q, hA0, hV, rfl, hfz, hnd⟩ := hW
  have hA : DataW.TrodAll enc Tryd.prog W 0 (fun _ => true) true Tryd.f5.params.toList args.toList ds p := hA0
  rw [Tryd.params5] at hA hval
  obtain ⟨v0, vs0, d0, ds0, p0, q0, hargs, rfl, rfl, h0, r0⟩ := trodAll_cons hA
  obtain ⟨v1, vs1, d1, ds1, p1, q1, rfl, rfl, rfl, h1, r1⟩ := trodAll_cons r0
  obtain ⟨v2, vs2, d2, ds2, p2, q2, rfl, rfl, rfl, h2, r2⟩ := trodAll_cons r1
  obtain ⟨rfl, rfl, rfl⟩ := trodAll_nil r2
  obtain rfl : args = #[v0, v1, v2] := by cases args; simp_all
  obtain ⟨rfl, rfl⟩ := trodVars_none hV
  obtain ⟨a0, len0, cap0, rfl⟩ := okWide_slice Tryd.underlying31 (hval 0 31 v0 rfl rfl)
  obtain ⟨cs1, rfl⟩ := okWide_arBuffersOwn Tryd.underlying69 (hval 1 69 v1 rfl rfl)
  obtain ⟨a2, len2, cap2, rfl⟩ := okWide_slice Tryd.underlying31 (hval 2 31 v2 rfl rfl)
  have k0 := h0
  have k1 := h1
  have k2 := h2
  have lt0 : ∀ x ∈ p0, x.block < W.heap.size := by obtain ⟨m, hm⟩ := k0; exact DataW.trod_lt m _ _ _ hm
  have lt1 : ∀ x ∈ p1, x.block < W.heap.size := by obtain ⟨m, hm⟩ := k1; exact DataW.trod_lt m _ _ _ hm
  have lt2 : ∀ x ∈ p2, x.block < W.heap.size := by obtain ⟨m, hm⟩ := k2; exact DataW.trod_lt m _ _ _ hm
  obtain ⟨l0, hl0_0, hl0, ho0, hz0, hb0, hx0⟩ : ∃ l : List UInt8, len0 = l.length ∧ SlAt uc 1 W a0 l ∧ (∀ x ∈ l, (fun _ _ => True) W x) ∧ l.length * 1 ≤ reachBytes ∧ (∀ y, a0 = some y → y.block < W.heap.size ∨ l = []) ∧ l.length ≤ maxLen := by
    obtain ⟨fuel, hf⟩ := h0
    obtain ⟨s, hs, h1, h2, h3, h4, h5⟩ := u8s_reads _ _ _ _ _ _ _ hf (fits_arg hsized (j := 0) rfl rfl)
    have hs : [Value.slice a0 len0 cap0] = [.slice s.a s.l.length s.c] := congrArg Array.toList hs
    simp only [List.cons.injEq, Value.slice.injEq, and_true] at hs
    obtain ⟨rfl, rfl, rfl⟩ := hs
    exact ⟨s.l, rfl, h1, h2, h3, h4, h5⟩
  subst hl0_0
  obtain ⟨x1, hx1⟩ : ∃ x : Key, cs1 = kc x := by
    obtain ⟨fuel, hf⟩ := h1
    obtain ⟨x, hx, _⟩ := key_reads _ _ _ _ _ _ _ hf (fits_arg hsized (j := 1) rfl rfl)
    exact ⟨x, by simpa [Value.cells] using hx⟩
  subst hx1
  obtain ⟨l2, hl2_0, hl2, ho2, hz2, hb2, hx2⟩ : ∃ l : List UInt8, len2 = l.length ∧ SlAt uc 1 W a2 l ∧ (∀ x ∈ l, (fun _ _ => True) W x) ∧ l.length * 1 ≤ reachBytes ∧ (∀ y, a2 = some y → y.block < W.heap.size ∨ l = []) ∧ l.length ≤ maxLen := by
    obtain ⟨fuel, hf⟩ := h2
    obtain ⟨s, hs, h1, h2, h3, h4, h5⟩ := u8s_reads _ _ _ _ _ _ _ hf (fits_arg hsized (j := 2) rfl rfl)
    have hs : [Value.slice a2 len2 cap2] = [.slice s.a s.l.length s.c] := congrArg Array.toList hs
    simp only [List.cons.injEq, Value.slice.injEq, and_true] at hs
    obtain ⟨rfl, rfl, rfl⟩ := hs
    exact ⟨s.l, rfl, h1, h2, h3, h4, h5⟩
  subst hl2_0
  clear hA0 hval0
  refine (ownLaw_s a0 l0 cap0 x1 a2 l2 cap2 W hl0 ho0 hz0 hb0 hx0 hl2 ho2 hz2 hb2 hx2 (tabW_of_laid hL)).mono fun e W' ⟨he, hm⟩ => ?_
  have bel : Below W.heap.size W W' := hm.below (Nat.le_refl _) (fun _ _ h => h)
  subst he
  exact ⟨_, rfl, _, _, _, [], _, [], hW', trodAll_mk1 (shut_bool Tryd.underlying4 _), (trodAll_cons_mk (Below.trod laid (by kernel_rfl) (of_decide_eq_true (by kernel_rfl)) k0 bel lt0) (trodAll_cons_mk (Below.trod laid (by kernel_rfl) (of_decide_eq_true (by kernel_rfl)) k1 bel lt1) (trodAll_cons_mk (Below.trod laid (by kernel_rfl) (of_decide_eq_true (by kernel_rfl)) k2 bel lt2) trodAll_mk0))), rfl, bel.frame _, fun h => by cases h⟩
theorem buffersOwn_holds : Rows.BuffersOwnSaid :=
  OpenClaim.holds_of_wide 5 Tryd.f5 rfl rfl rfl rfl rfl rfl rfl ⟨rfl, rfl, rfl, rfl, rfl⟩ rfl rfl rfl rfl rfl (by kernel_rfl) Tryd.func5 (by kernel_rfl)
    (of_decide_eq_true (by kernel_rfl)) (by unfold Func.isWrapper; first | (rw [if_pos (by decide +kernel)]; kernel_rfl) | (rw [if_neg (by decide +kernel)]; exact ⟨rfl, rfl⟩))
    (fun os started H enc _ => buffersOwn_lifted os started H enc)
theorem buffersOwnCard_holds : Rows.BuffersOwnCardSaid :=
  Claim7.holds_tied_plain_at .later [] [.data] true (true, "a14f2f6a210b9ea0a17886e3a1e7fdbe3ac55b935c137689edb194899b8d2cfa") true
    buffersOwn_holds (fun _ h => by cases h) (by kernel_rfl) (fun _ h => by cases h) buffersOwn_row_tie rfl ⟨rfl, rfl⟩ (by kernel_rfl) rfl
    (fun f fn hf hfn => by
      obtain rfl : f = 5 := Option.some.inj ((show Tryd.prog.funcNamed "ferryhouse/ferryhouselaw19.BuffersOwn" = some 5 by kernel_rfl).symm.trans hf) |>.symm
      obtain rfl : fn = Tryd.f5 := (Option.some.inj (Tryd.func5.symm.trans hfn)).symm
      exact ⟨by kernel_rfl, fun j t ht => by
        rw [Tryd.params5] at ht
        have hm : t ∈ [31, 69, 31] := by simpa using Array.mem_of_getElem? ht
        have hall : ([31, 69, 31].all fun u => !Tryd.prog.wantsStandIn u) = true := by kernel_rfl
        exact (show Tryd.prog.wantsStandIn t = false by simpa using List.all_eq_true.1 hall t hm)⟩)
    (by kernel_rfl)
#print axioms buffersOwnCard_holds
end Go.Proofs.YtdeghpmlhcaedaaDoor
