/- The statement 'ReadiesTables', proved: tables that come behind others change nothing of what was told; without lookups no table is asked. For every input; the two variables of budgets as the program's text lays them. -/
import Derived.Test.YtiaehkkkcaeaiaaGreatDoorMb1
import Derived.Test.YtiaehkkkcaeaiaaGreatDoorRows
import Derived.Test.YtiaehkkkcaeaiaaGreatDoorCards
import Derived.Test.YtiaehkkkcaeaiaaGreatDoorTie
import Derived.SizedLaws
import Derived.WalkKit
import Derived.ProofKit
import Derived.OpenShut
import Derived.ShutString
import Derived.ChangeOld
import Derived.Below
import Derived.LaidMore
import Derived.Stop.Joined
import Derived.SevenTiedAt
set_option linter.unusedSimpArgs false
set_option linter.unusedVariables false
set_option linter.unusedSectionVars false
namespace Go.Proofs.YtiaehkkkcaeaiaaGreatDoor
open Go.ChangeShapes Go.WideShapes Go.ChangeAt Go.RowKit
theorem ownReadiesTables : ownKnob Tryz.prog.godebug = none := by kernel_rfl
set_option maxRecDepth 100000 in
theorem readiesTables_lifted (os : Os) (started : os.Started) (H : Type) (enc : TypeId × Value → H) :
  ReturnsInHanded {} Tryz.checked os 6 .any (fun w args => (Rows.readiesTablesSpec.pre enc Tryz.prog Tryz.f6 [] false w args ∧ laidMetH Tryz.prog LD w) ∧ sizedMet enc Tryz.prog Tryz.f6 (OpenSpec.ofChange Rows.readiesTablesSpec) false w args) (Rows.readiesTablesSpec.post enc Tryz.prog Tryz.f6 false true false false) := by
 refine returnsInHanded_of_change_and (C := Tryz.checked) (X := fun w _ => laidMetH Tryz.prog LD w) (fun _ _ _ hh h => h.of_heap hh) ownReadiesTables started (by kernel_rfl) Tryz.func6
  (ChangeSpec.witness_shaped (enc := enc) (C := Tryz.checked) (os := os) (X := fun w _ => laidMetH Tryz.prog LD w) false (World.doorLaid Tryz.prog 400 os) #[.slice none 0 0, .slice none 0 0, .slice none 0 0] 8 rfl (World.shaped_of_RefB (by kernel_rfl) (by kernel_rfl)) (by kernel_rfl) (by kernel_rfl) (by kernel_rfl) (door_met os _)) ?_
 intro W base args ds gs before hval0 hW hcnd hsized hL _
 have hval : ∀ (j : Nat) t v, Tryz.f6.params[j]? = some t → args[j]? = some v → Value.okWide Tryz.prog W .any base t v := hval0
 have hW' := hW
 obtain ⟨p, q, hA0, hV, rfl, hfz, hnd⟩ := hW
 have hA : DataW.TrodAll enc Tryz.prog W 0 (fun _ => true) true Tryz.f6.params.toList args.toList ds p := hA0
 rw [Tryz.params6] at hA hval
 obtain ⟨v0, vs0, d0, ds0, p0, q0, hargs, rfl, rfl, h0, r0⟩ := trodAll_cons hA
 obtain ⟨v1, vs1, d1, ds1, p1, q1, rfl, rfl, rfl, h1, r1⟩ := trodAll_cons r0
 obtain ⟨v2, vs2, d2, ds2, p2, q2, rfl, rfl, rfl, h2, r2⟩ := trodAll_cons r1
 obtain ⟨rfl, rfl, rfl⟩ := trodAll_nil r2
 obtain rfl : args = #[v0, v1, v2] := by cases args; simp_all
 obtain ⟨rfl, rfl⟩ := trodVars_none hV
 obtain ⟨a0, len0, cap0, rfl⟩ := okWide_slice Tryz.underlying22 (hval 0 22 v0 rfl rfl)
 obtain ⟨a1, len1, cap1, rfl⟩ := okWide_slice Tryz.underlying51 (hval 1 51 v1 rfl rfl)
 obtain ⟨a2, len2, cap2, rfl⟩ := okWide_slice Tryz.underlying51 (hval 2 51 v2 rfl rfl)
 obtain ⟨hn0, hc0, hin0⟩ := okWide_adr Tryz.underlying22 (hval 0 22 _ rfl rfl)
 have k0 := h0
 have k1 := h1
 have k2 := h2
 have lt0 : ∀ x ∈ p0, x.block < W.heap.size := by obtain ⟨m, hm⟩ := k0; exact DataW.trod_lt m _ _ _ hm
 have lt1 : ∀ x ∈ p1, x.block < W.heap.size := by obtain ⟨m, hm⟩ := k1; exact DataW.trod_lt m _ _ _ hm
 have lt2 : ∀ x ∈ p2, x.block < W.heap.size := by obtain ⟨m, hm⟩ := k2; exact DataW.trod_lt m _ _ _ hm
 obtain ⟨l0, hl0_0, hl0⟩ : ∃ l : List UInt8, len0 = l.length ∧ SlAt uc 1 W a0 l := by
  obtain ⟨fuel, hf⟩ := h0
  obtain ⟨s, hs, h1, h2, h3, h4, h5⟩ := bysC_reads _ _ _ _ _ _ _ hf (fits_arg hsized (j := 0) rfl rfl)
  have hs : [Value.slice a0 len0 cap0] = [.slice s.a s.l.length s.c] := congrArg Array.toList hs
  simp only [List.cons.injEq, Value.slice.injEq, and_true] at hs
  obtain ⟨rfl, rfl, rfl⟩ := hs
  exact ⟨s.l, rfl, h1⟩
 subst hl0_0
 obtain ⟨l1, hl1_0, hl1, ho1, hz1, hb1, hx1⟩ : ∃ l : List TbR, len1 = l.length ∧ SlAt tbr 33 W a1 l ∧ (∀ x ∈ l, TaOk W x) ∧ l.length * 56 ≤ reachBytes ∧ (∀ y, a1 = some y → y.block < W.heap.size ∨ l = []) ∧ l.length ≤ maxLen := by
  obtain ⟨fuel, hf⟩ := h1
  obtain ⟨s, hs, h1, h2, h3, h4, h5⟩ := tas_reads _ _ _ _ _ _ _ hf (fits_arg hsized (j := 1) rfl rfl)
  have hs : [Value.slice a1 len1 cap1] = [.slice s.a s.l.length s.c] := congrArg Array.toList hs
  simp only [List.cons.injEq, Value.slice.injEq, and_true] at hs
  obtain ⟨rfl, rfl, rfl⟩ := hs
  exact ⟨s.l, rfl, h1, h2, h3, h4, h5⟩
 subst hl1_0
 obtain ⟨l2, hl2_0, hl2, ho2, hz2, hb2, hx2⟩ : ∃ l : List TbR, len2 = l.length ∧ SlAt tbr 33 W a2 l ∧ (∀ x ∈ l, TaOk W x) ∧ l.length * 56 ≤ reachBytes ∧ (∀ y, a2 = some y → y.block < W.heap.size ∨ l = []) ∧ l.length ≤ maxLen := by
  obtain ⟨fuel, hf⟩ := h2
  obtain ⟨s, hs, h1, h2, h3, h4, h5⟩ := tas_reads _ _ _ _ _ _ _ hf (fits_arg hsized (j := 2) rfl rfl)
  have hs : [Value.slice a2 len2 cap2] = [.slice s.a s.l.length s.c] := congrArg Array.toList hs
  simp only [List.cons.injEq, Value.slice.injEq, and_true] at hs
  obtain ⟨rfl, rfl, rfl⟩ := hs
  exact ⟨s.l, rfl, h1, h2, h3, h4, h5⟩
 subst hl2_0
 clear hA0 hval0
 refine ((fun a0 l0 c0 a1 l1 c1 a2 l2 c2 w h0 k1 k2 k3 h1 ho hz hb hx h2 ho2 hz2 hb2 hx2 hB => tablesLaw_c a0 l0 c0 a1 l1 c1 a2 l2 c2 w ⟨h0, k1, k2, k3⟩ h1 ho h2 ho2 hB) a0 l0 cap0 a1 l1 cap1 a2 l2 cap2 W hl0 hc0 hn0 hin0 hl1 ho1 hz1 hb1 hx1 hl2 ho2 hz2 hb2 hx2 (tabW_of_laid hL)).mono fun e W' ⟨he, hm⟩ => ?_
 have bel : Below W.heap.size W W' := hm.below (Nat.le_refl _) (fun _ _ h => h)
 subst he
 exact ⟨_, rfl, _, _, _, [], _, [], hW', trodAll_mk1 (shut_bool Tryz.underlying4 _), (trodAll_cons_mk (Below.trod laid (by kernel_rfl) (of_decide_eq_true (by kernel_rfl)) k0 bel lt0) (trodAll_cons_mk (Below.trod laid (by kernel_rfl) (of_decide_eq_true (by kernel_rfl)) k1 bel lt1) (trodAll_cons_mk (Below.trod laid (by kernel_rfl) (of_decide_eq_true (by kernel_rfl)) k2 bel lt2) trodAll_mk0))), rfl, bel.frame _, fun h => by cases h⟩
theorem readiesTables_holds : Rows.ReadiesTablesSaid :=
 OpenClaim.holds_of_wide 6 Tryz.f6 rfl rfl rfl rfl rfl rfl rfl ⟨rfl, rfl, rfl, rfl, rfl⟩ rfl rfl rfl rfl rfl (by kernel_rfl) Tryz.func6 (by kernel_rfl)
  (of_decide_eq_true (by kernel_rfl)) (by unfold Func.isWrapper; first | (rw [if_pos (by decide +kernel)]; kernel_rfl) | (rw [if_neg (by decide +kernel)]; exact ⟨rfl, rfl⟩))
  (fun os started H enc _ => readiesTables_lifted os started H enc)
theorem readiesTablesCard_holds : Rows.ReadiesTablesCardSaid :=
 Claim7.holds_tied_plain_at .later [] [.data, .data] true (true, "bbcd8e7124cdc2a0cfcdb4469d09a8f7a7de5ed78a35b9507c20d08a7b415d79") true
  readiesTables_holds (fun _ h => by cases h) (by kernel_rfl) (fun _ h => by cases h) readiesTables_row_tie rfl ⟨rfl, rfl⟩ (by kernel_rfl) rfl
  (fun f fn hf hfn => by
   obtain rfl : f = 6 := Option.some.inj ((show Tryz.prog.funcNamed "ferryhouse/ferryhouselaw11.ReadiesTables" = some 6 by kernel_rfl).symm.trans hf) |>.symm
   obtain rfl : fn = Tryz.f6 := (Option.some.inj (Tryz.func6.symm.trans hfn)).symm
   exact ⟨by kernel_rfl, fun j t ht => by
    rw [Tryz.params6] at ht
    have hm : t ∈ [22, 51, 51] := by simpa using Array.mem_of_getElem? ht
    have hall : ([22, 51, 51].all fun u => !Tryz.prog.wantsStandIn u) = true := by kernel_rfl
    exact (show Tryz.prog.wantsStandIn t = false by simpa using List.all_eq_true.1 hall t hm)⟩)
  (by kernel_rfl)
#print axioms readiesTablesCard_holds
end Go.Proofs.YtiaehkkkcaeaiaaGreatDoor
