/- The statement 'AccountsCoins', proved: coins that move leave the sum, coins more add to it. For every input; no condition. -/
import Derived.Test.YtknmiojegnbakaaRows
import Derived.Test.YtknmiojegnbakaaRead
import Derived.SizedLaws
import Derived.WalkKit
import Derived.ProofKit
import Derived.OpenShut
import Derived.ShutString
import Derived.ChangeOld
import Derived.Below
namespace Go.Proofs.Ytknmiojegnbakaa
open Go.ChangeShapes Go.WideShapes Go.ChangeAt Go.RowKit
set_option linter.unusedVariables false
theorem okWide_array {P : Program} {w : World} {r : Reach} {base : Nat} {t e : TypeId} {n : Nat} {v : Value} (ht : P.underlying t = some (.array n e)) (h : Value.okWide P w r base t v) : ∃ cs, v = .agg cs := by
  simp only [Value.okWide, ht] at h
  obtain ⟨cs, h1, _⟩ := h
  exact ⟨cs, h1⟩
set_option maxRecDepth 20000 in
theorem kk_of {H : Type} {enc : TypeId × Value → H} {w : World} {base : Nat} {sp : Nat → Bool} {held : Bool} {fuel : Nat} {cs : List Value} {x : DataW H × List MemPlace} (h : DataW.trod enc Try.prog w base sp held fuel 41 cs = some x) : ∃ a b : Key, cs.toArray = kk a b := by
  obtain ⟨xs, m, rfl, rfl, hl, hx, hi⟩ := DataW.trod_array Try.underlying41 h
  have hl : cs.length = 64 := hl.trans (by kernel_rfl)
  have h0 := hi 0 (by omega)
  have h1 := hi 1 (by omega)
  rw [show Try.prog.cellsOf 28 = 32 by kernel_rfl, List.getElem?_eq_getElem (by omega)] at h0 h1
  obtain ⟨a, ha⟩ := key_of h0
  obtain ⟨b, hb⟩ := key_of h1
  refine ⟨a, b, ?_⟩
  have ha' : (cs.drop 0).take 32 = (kc a).toList := by
    have := congrArg Array.toList ha
    simpa using this
  have hb' : (cs.drop 32).take 32 = (kc b).toList := by
    have := congrArg Array.toList hb
    simpa using this
  have e := split3 (a := 32) (b := 32) (c := 0) (hl.trans rfl)
  rw [ha', hb'] at e
  apply Array.toList_inj.1
  rw [e]
  simp [kk]
theorem own1 : ownKnob Try.prog.godebug = none := by kernel_rfl
set_option maxRecDepth 100000 in
theorem accountsCoins_lifted (os : Os) (started : os.Started) (H : Type) (enc : TypeId × Value → H) :
    ReturnsInHanded {} Try.checked os 4 .any (Rows.accountsCoinsSpec.pre6 enc Try.prog Try.f4 Rows.accountsCoinsRow.domain false) (Rows.accountsCoinsSpec.post enc Try.prog Try.f4 false true false false) := by
  refine returnsInHanded_of_change_sized (C := Try.checked) own1 started (by kernel_rfl) Try.func4
    (ChangeSpec.witness6 (enc := enc) (C := Try.checked) false ⟨#[], #[.slice none 0 0, .agg (Array.replicate 64 (.int .u8 0)), .int .u64 0], []⟩ 8 (by kernel_rfl) (by kernel_rfl) (by kernel_rfl) (by kernel_rfl)) ?_
  intro W base args ds gs before hval0 hW hcnd hsized _
  have hval : ∀ (j : Nat) t v, Try.f4.params[j]? = some t → args[j]? = some v → Value.okWide Try.prog W .any base t v := hval0
  have hW' := hW
  obtain ⟨p, q, hA0, hV, rfl, hfz, hnd⟩ := hW
  have hA : DataW.TrodAll enc Try.prog W 0 (fun _ => true) true Try.f4.params.toList args.toList ds p := hA0
  rw [Try.params4] at hA hval
  obtain ⟨v0, vs0, d0, ds0, p0, q0, hargs, rfl, rfl, h0, r0⟩ := trodAll_cons hA
  obtain ⟨v1, vs1, d1, ds1, p1, q1, rfl, rfl, rfl, h1, r1⟩ := trodAll_cons r0
  obtain ⟨v2, vs2, d2, ds2, p2, q2, rfl, rfl, rfl, h2, r2⟩ := trodAll_cons r1
  obtain ⟨rfl, rfl, rfl⟩ := trodAll_nil r2
  obtain rfl : args = #[v0, v1, v2] := by cases args; simp_all
  obtain ⟨rfl, rfl⟩ := trodVars_none hV
  obtain ⟨a0, len0, cap0, rfl⟩ := okWide_slice Try.underlying22 (hval 0 22 v0 rfl rfl)
  obtain ⟨cs1, rfl⟩ := okWide_array Try.underlying41 (hval 1 41 v1 rfl rfl)
  obtain ⟨n, rfl, rfl, rfl, w2⟩ := open_int Try.underlying29 (hval 2 29 v2 rfl rfl) h2
  have k0 := h0
  have k1 := h1
  have k2 := h2
  have lt0 : ∀ x ∈ p0, x.block < W.heap.size := by obtain ⟨m, hm⟩ := k0; exact DataW.trod_lt m _ _ _ hm
  have lt1 : ∀ x ∈ p1, x.block < W.heap.size := by obtain ⟨m, hm⟩ := k1; exact DataW.trod_lt m _ _ _ hm
  obtain ⟨l, hl0, hl⟩ : ∃ l : List AAct, len0 = l.length ∧ SlAt ac 67 W a0 l := by
    obtain ⟨fuel, hf⟩ := h0
    obtain ⟨s, hs, h1, h2, h3, _, _⟩ := aacts_reads _ _ _ _ _ _ _ hf (fits_arg hsized (j := 0) rfl rfl)
    have hs : [Value.slice a0 len0 cap0] = [.slice s.a s.l.length s.c] := congrArg Array.toList hs
    simp only [List.cons.injEq, Value.slice.injEq, and_true] at hs
    obtain ⟨rfl, rfl, rfl⟩ := hs
    exact ⟨s.l, rfl, h1⟩
  subst hl0
  obtain ⟨ka, kb, hkk⟩ : ∃ a b : Key, cs1 = kk a b := by
    obtain ⟨fuel, hf⟩ := h1
    obtain ⟨a, b, hx⟩ := kk_of hf
    exact ⟨a, b, by simpa [Value.cells] using hx⟩
  subst hkk
  obtain ⟨x, rfl⟩ := u64_of (bounds_u64 w2)
  clear hA0 hval0
  refine (coinsLaw_c a0 l cap0 ka kb x W hl).mono fun e W' ⟨he, hm⟩ => ?_
  have bel : Below W.heap.size W W' := hm.below (Nat.le_refl _) (fun _ _ h => h)
  subst he
  exact ⟨_, rfl, _, _, _, [], _, [], hW', trodAll_mk1 (shut_bool Try.underlying4 _), (trodAll_cons_mk (Below.trod laid (by kernel_rfl) (of_decide_eq_true (by kernel_rfl)) k0 bel lt0) (trodAll_cons_mk (Below.trod laid (by kernel_rfl) (of_decide_eq_true (by kernel_rfl)) k1 bel lt1) (trodAll_cons_mk (shut_int Try.underlying29 w2) trodAll_mk0))), rfl, bel.frame _, fun h => by cases h⟩
theorem accountsCoins_holds : Rows.AccountsCoinsSaid :=
  OpenClaim.holds_of_wide 4 Try.f4 rfl rfl rfl rfl rfl rfl rfl ⟨rfl, rfl, rfl, rfl, rfl⟩ rfl rfl rfl rfl rfl (by kernel_rfl) Try.func4 (by kernel_rfl)
    (of_decide_eq_true (by kernel_rfl)) (by unfold Func.isWrapper; first | (rw [if_pos (by decide +kernel)]; kernel_rfl) | (rw [if_neg (by decide +kernel)]; exact ⟨rfl, rfl⟩))
    (fun os started H enc _ => accountsCoins_lifted os started H enc)
#print axioms accountsCoins_holds
end Go.Proofs.Ytknmiojegnbakaa
