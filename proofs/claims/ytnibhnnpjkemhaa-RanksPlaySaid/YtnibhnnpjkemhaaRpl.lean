/- The walk of RanksPlay. -/
import Derived.Test.YtnibhnnpjkemhaaRb
import Derived.Test.YtnibhnnpjkemhaaRread
namespace Go.Proofs.Ytnibhnnpjkemhaa
open Go.RowKit Go.Sort
open Go.ChangeMaps (setBlock)
set_option linter.unusedSimpArgs false
set_option linter.unusedVariables false
attribute [local go_sem ↓] wlRk ldRk stRk wlNdR ldNdR stNdR eqRk eqRk2
attribute [local go_sem] rkc_size ndc_size rn_size cell_blk frozen_blk one_int one_bool one_ptr one_slice one_map Value.cells rkc_all1 rn_r rn_i rn_all rkc_ext zRk_size zNdR_size
theorem rac_part {C : Array Value} {o : Nat} {x : RAct} (h : C.extract o (o + 4) = rac x) : C[o]? = some (.int .u8 (x.what.toNat : Int)) ∧ C.extract (o + 1) (o + 1 + 2) = rkc x.r ∧ C[o + 3]? = some (.int .i64 x.id.toInt) := by
  refine ⟨by have h0 := cellC h (j := 0) (v := .int .u8 (x.what.toNat : Int)) rfl; simpa using h0, ?_, cellC h (j := 3) rfl⟩
  have h2 : (C.extract o (o + 4)).extract 1 3 = rkc x.r := by rw [h]; rfl
  rw [Array.extract_extract] at h2
  have e : min (o + 3) (o + 4) = o + 1 + 2 := by omega
  rw [e] at h2
  exact h2
theorem same_id {C : List Nd} (hn : (C.map Nd.id).Nodup) {x y : Nd} (hx : x ∈ C) (hy : y ∈ C) (h : x.id = y.id) : x = y := by
  obtain ⟨i, hi⟩ := List.mem_iff_getElem?.1 hx
  obtain ⟨j, hj⟩ := List.mem_iff_getElem?.1 hy
  have e1 : (C.map Nd.id)[i]? = some x.id := by rw [List.getElem?_map, hi]; rfl
  have e2 : (C.map Nd.id)[j]? = some x.id := by rw [List.getElem?_map, hj]; simp [h]
  have := (List.getElem?_inj (List.getElem?_eq_some_iff.1 e1).1 hn).1 (e1.trans e2.symm)
  subst this
  rw [hi] at hj
  exact Option.some.inj hj
/-- What the rounds keep. -/
structure PI (w : World) (h p : Nat) (i : Nat) (C D : List Nd) (ws : World) : Prop where
  bb : BB w h p C D ws
  perm : D.Perm C
  srt : Srt D
  len : C.length ≤ i
theorem PI.lenD {w ws : World} {h p i : Nat} {C D : List Nd} (H : PI w h p i C D ws) : D.length ≤ i := by rw [H.perm.length_eq]; exact H.len
theorem PI.up {w ws : World} {h p i : Nat} {C D : List Nd} (H : PI w h p i C D ws) {w2 : World} (hm : Mod (fun _ => False) ws w2) : PI w h p (i + 1) C D w2 := ⟨H.bb.mod0 hm, H.perm, H.srt, Nat.le_succ_of_le H.len⟩
theorem PI.push {w ws : World} {h p i : Nat} {C D : List Nd} (H : PI w h p i C D ws) {x : Nd} (hid : ∀ y ∈ C, y.id ≠ x.id) {w2 : World} (hb : BB w h p (C ++ [x]) (insAt x D) w2) : PI w h p (i + 1) (C ++ [x]) (insAt x D) w2 :=
  ⟨hb, (insAt_perm x D).trans (H.perm.append_right _), insAt_srt H.srt (fun y hy => hid y (H.perm.mem_iff.1 hy)), by rw [List.length_append]; exact Nat.succ_le_succ H.len⟩
theorem PI.drop {w ws : World} {h p i : Nat} {C D : List Nd} (H : PI w h p i C D ws) {j : Nat} {x : Nd} {id : Int64} (hx : D[j]? = some x) (hi : x.id = id) {w2 : World} (hb : BB w h p (C.eraseP (fun y => y.id == id)) (D.eraseIdx j) w2) : PI w h p (i + 1) (C.eraseP (fun y => y.id == id)) (D.eraseIdx j) w2 := by
  subst hi
  exact ⟨hb, eraseP_idx H.perm H.bb.ids hx, eraseIdx_srt H.srt j, Nat.le_trans List.length_eraseP_le (Nat.le_succ_of_le H.len)⟩
set_option maxRecDepth 20000 in
set_option maxHeartbeats 12800000 in
theorem playLaw_c (a : Option Addr) (l : List RAct) (c : Nat) (w : World) (hl : SlAt rac 4 w a l) : Calls Try.prog 3 #[.slice a l.length c] w fun e w' => e = .returned (.bool true) ∧ Mod (fun _ => False) w w' := by
  have HL := Lib.hid hl
  clear hl
  go_enter Try.func3, Try.ntmps3
  by_cases hlen : l.length ≤ 120
  case neg =>
    have hd : decide ((120 : Int) < (l.length : Int)) = true := decide_eq_true (by omega)
    go_wp2_with fail
    go_at_call 9
    refine (lives_c _).mono ?_
    rintro e w4 ⟨rfl, m4⟩
    go_wp2_with fail
    go_ret
    exact ⟨rfl, m4⟩
  have hd : decide ((120 : Int) < (l.length : Int)) = false := decide_eq_false (by omega)
  go_wp2_with fail
  go_at_call 10
  refine (HH.new w).mono ?_
  rintro e w1 ⟨h, rfl, hx⟩
  have HX := Lib.hid hx
  clear hx
  go_wp2_with fail
  go_at_call 11
  refine (rnew_c w1).mono ?_
  rintro e w2 ⟨rfl, hw2⟩
  have hx0 : PI w h w1.heap.size 0 [] [] w2 := by
    subst hw2
    obtain ⟨T, hA, hT, hm⟩ := HX.out
    have ma : Mod (fun _ => False) w1 (w1.alloc (.cells #[.slice none 0 0] 69)) := (Mod.refl _ _).alloc _
    have hsz : (w1.alloc (.cells #[.slice none 0 0] 69)).heap.size = w1.heap.size + 1 := by simp
    refine ⟨⟨fun i => T i ∨ i = w1.heap.size, ⟨T, fun i => i = w1.heap.size, (HAt.good h []).cl T _ _ hA (ma.mono (fun _ _ e => e.elim)), ⟨_, heap_alloc_new _ _, SlOwn.nil _ _, rfl, fun g hg => by cases hg⟩, fun i hi => ⟨.inl hi, fun e => by have := (hT i hi).2; omega⟩, fun i hi => .inr hi, fun i hi => by have := (hT i hi).2; omega, fun i hi => by omega⟩, fun i hi => ?_, hm.then0 ma⟩, .refl _, List.Pairwise.nil, Nat.le_refl _⟩
    have := hm.size
    rcases hi with hi | hi
    · have := hT i hi
      omega
    · omega
  generalize w1.heap.size = p at *
  have HX0 := Lib.hid hx0
  clear hx0 HX hw2
  go_wp2_with fail
  go_loopw [5, 6, 7, 8, 9, 10] (fun s5 _ _ _ _ _ ws => ∃ (i : Nat) (C D : List Nd), i ≤ l.length ∧ s5 = .int .i64 (i : Int) ∧ Hid (PI w h p i C D ws)) (fun s5 _ _ _ _ _ _ => l.length - (intOf s5).toNat)
  case atStart => exact ⟨0, [], [], by omega, rfl, HX0⟩
  case round =>
    obtain ⟨i, C, D, hi, rfl, HP⟩ := hrel
    clear HX0
    by_cases hlt : i < l.length
    · obtain ⟨x, hx⟩ : ∃ x, l[i]? = some x := ⟨_, List.getElem?_eq_getElem hlt⟩
      obtain ⟨g, o, CC, U, fr, rfl, kl0, he, hle⟩ := HL.out.block hx
      have kl := HP.out.bb.m.at0 kl0
      obtain ⟨e1, e2, e3⟩ := rac_part he
      have d1 : o + i * 4 + 1 + 2 ≤ CC.size := by omega
      have hgs := lt_size kl0
      have HG := Lib.hid (And.intro hgs kl0)
      clear hx he hle hgs kl0
      obtain ⟨what, r, id⟩ := x
      dsimp only at e1 e2 e3
      have h4 : what.toNat % 4 < 4 := Nat.mod_lt _ (by omega)
      have hmo : (what.toNat : Int).tmod 4 = ((what.toNat % 4 : Nat) : Int) := by rw [Int.tmod_eq_emod_of_nonneg (by omega)]; omega
      generalize what.toNat % 4 = m at *
      rcases (by omega : m = 0 ∨ m = 1 ∨ m = 2 ∨ m = 3) with rfl | rfl | rfl | rfl
      · by_cases hid : ∃ y ∈ C, y.id = id
        · have HID := Lib.hid hid
          clear hid
          go_upto_region 14 with fail
          have Lkl := lt_size kl
          refine wp_gpass (T0 := fun _ => False) (K := fun _ _ => True) (κ := fun i => [0, 0, 0, 0, 0, 0, 0, 6, 0, 0, 0, 0, 0, 0, 0, 6, 0].getD i 0) (υ := fun i => [[], [], [], [], [], [], [], [], [], [], [], [], [], [], [], [], []].getD i []) [0, 1, 2, 3, 4, 5, 6, 7, 8, 9, 10, 11, 12, 13, 14, 15, 16] (by kernel_rfl) (by kernel_rfl) (Good.true).cl (trivial) (fun _ h => h.elim) ?_
          have gK := Good.true
          (refine TG.v0 (v := ?v1) (by simp only [List.getElem?_toArray, List.getElem?_cons_succ, List.getElem?_cons_zero]; rfl) rfl ?hw1 (fun w1 => ?hy1) ?hn1; (case hw1 => rfl); (case hy1 => (go_simp; (try with_reducible rfl))); (try simp only [Act.put, List.setIfInBounds_toArray, List.set_cons_zero, List.set_cons_succ]))
          (refine TG.v0 (v := ?v2) (by simp only [List.getElem?_toArray, List.getElem?_cons_succ, List.getElem?_cons_zero]; rfl) rfl ?hw2 (fun w1 => ?hy2) ?hn2; (case hw2 => rfl); (case hy2 => (go_simp; (try with_reducible rfl))); (try simp only [Act.put, List.setIfInBounds_toArray, List.set_cons_zero, List.set_cons_succ]))
          (refine TG.v0 (v := ?v3) (by simp only [List.getElem?_toArray, List.getElem?_cons_succ, List.getElem?_cons_zero]; rfl) rfl ?hw3 (fun w1 => ?hy3) ?hn3; (case hw3 => rfl); (case hy3 => (go_simp; (try with_reducible rfl))); (try simp only [Act.put, List.setIfInBounds_toArray, List.set_cons_zero, List.set_cons_succ]))
          (refine TG.v0 (v := ?v4) (by simp only [List.getElem?_toArray, List.getElem?_cons_succ, List.getElem?_cons_zero]; rfl) rfl ?hw4 (fun w1 => ?hy4) ?hn4; (case hw4 => rfl); (case hy4 => (go_simp; (try with_reducible rfl))); (try simp only [Act.put, List.setIfInBounds_toArray, List.set_cons_zero, List.set_cons_succ]))
          (refine TG.v0 (v := ?v5) (by simp only [List.getElem?_toArray, List.getElem?_cons_succ, List.getElem?_cons_zero]; rfl) rfl ?hw5 (fun w1 => ?hy5) ?hn5; (case hw5 => rfl); (case hy5 => (go_simp; (try with_reducible rfl))); (try simp only [Act.put, List.setIfInBounds_toArray, List.set_cons_zero, List.set_cons_succ]))
          (refine TG.load (v := ?v6) (p := ?p6) (by simp only [List.getElem?_toArray, List.getElem?_cons_succ, List.getElem?_cons_zero]; rfl) rfl ?hw6 rfl ?hx6 (fun wq hSq => ?hy6) ?hn6; (case hw6 => rfl); (case hx6 => (simp only [Act.eval, Array.getD_eq_getD_getElem?, List.getElem?_toArray, List.getElem?_cons_succ, List.getElem?_cons_zero, Option.getD_some]; (try rfl))); (case hy6 => (have klq := hSq.at kl (by intro hT; first | exact hT | exact absurd hT (by assumption) | (simp only at hT; omega)); go_simp; (try with_reducible rfl))); (try simp only [Act.put, List.setIfInBounds_toArray, List.set_cons_zero, List.set_cons_succ]))
          (refine TG.v0 (v := ?v7) (by simp only [List.getElem?_toArray, List.getElem?_cons_succ, List.getElem?_cons_zero]; rfl) rfl ?hw7 (fun w1 => ?hy7) ?hn7; (case hw7 => rfl); (case hy7 => (go_simp; (try with_reducible rfl))); (try simp only [Act.put, List.setIfInBounds_toArray, List.set_cons_zero, List.set_cons_succ]))
          (refine TG.callN (f := ?f8) (args := ?r8) (fun v => v = .int .i64 12) gK (by simp only [List.getElem?_toArray, List.getElem?_cons_succ, List.getElem?_cons_zero]; rfl) rfl ?hw8 (fun w1 => ?hy8) (fun T wq kq ltq hSq ub => ?hsp8) ?hn8; (case hw8 => rfl); (case hy8 => (go_simp; (first | with_reducible rfl | (constructor <;> with_reducible rfl)))); (case hsp8 => (have klq := hSq.at kl (by intro hT; first | exact hT | exact absurd hT (by assumption) | (simp only at hT; omega)); exact ((HP.out.bb.mod0 hSq).pushTH r id HID.out).mono (fun e w' h => ⟨_, h.1, rfl, h.2⟩))); rintro v8 hC; subst hC; (try simp only [Act.put, List.setIfInBounds_toArray, List.set_cons_zero, List.set_cons_succ]))
          (refine TG.v0 (v := ?v9) (by simp only [List.getElem?_toArray, List.getElem?_cons_succ, List.getElem?_cons_zero]; rfl) rfl ?hw9 (fun w1 => ?hy9) ?hn9; (case hw9 => rfl); (case hy9 => (go_simp; (try with_reducible rfl))); (try simp only [Act.put, List.setIfInBounds_toArray, List.set_cons_zero, List.set_cons_succ]))
          (refine TG.v0 (v := ?v10) (by simp only [List.getElem?_toArray, List.getElem?_cons_succ, List.getElem?_cons_zero]; rfl) rfl ?hw10 (fun w1 => ?hy10) ?hn10; (case hw10 => rfl); (case hy10 => (go_simp; (try with_reducible rfl))); (try simp only [Act.put, List.setIfInBounds_toArray, List.set_cons_zero, List.set_cons_succ]))
          (refine TG.v0 (v := ?v11) (by simp only [List.getElem?_toArray, List.getElem?_cons_succ, List.getElem?_cons_zero]; rfl) rfl ?hw11 (fun w1 => ?hy11) ?hn11; (case hw11 => rfl); (case hy11 => (go_simp; (try with_reducible rfl))); (try simp only [Act.put, List.setIfInBounds_toArray, List.set_cons_zero, List.set_cons_succ]))
          (refine TG.v0 (v := ?v12) (by simp only [List.getElem?_toArray, List.getElem?_cons_succ, List.getElem?_cons_zero]; rfl) rfl ?hw12 (fun w1 => ?hy12) ?hn12; (case hw12 => rfl); (case hy12 => (go_simp; (try with_reducible rfl))); (try simp only [Act.put, List.setIfInBounds_toArray, List.set_cons_zero, List.set_cons_succ]))
          (refine TG.v0 (v := ?v13) (by simp only [List.getElem?_toArray, List.getElem?_cons_succ, List.getElem?_cons_zero]; rfl) rfl ?hw13 (fun w1 => ?hy13) ?hn13; (case hw13 => rfl); (case hy13 => (go_simp; (try with_reducible rfl))); (try simp only [Act.put, List.setIfInBounds_toArray, List.set_cons_zero, List.set_cons_succ]))
          (refine TG.load (v := ?v14) (p := ?p14) (by simp only [List.getElem?_toArray, List.getElem?_cons_succ, List.getElem?_cons_zero]; rfl) rfl ?hw14 rfl ?hx14 (fun wq hSq => ?hy14) ?hn14; (case hw14 => rfl); (case hx14 => (simp only [Act.eval, Array.getD_eq_getD_getElem?, List.getElem?_toArray, List.getElem?_cons_succ, List.getElem?_cons_zero, Option.getD_some]; (try rfl))); (case hy14 => (have klq := hSq.at kl (by intro hT; first | exact hT | exact absurd hT (by assumption) | (simp only at hT; omega)); go_simp; (try with_reducible rfl))); (try simp only [Act.put, List.setIfInBounds_toArray, List.set_cons_zero, List.set_cons_succ]))
          (refine TG.v0 (v := ?v15) (by simp only [List.getElem?_toArray, List.getElem?_cons_succ, List.getElem?_cons_zero]; rfl) rfl ?hw15 (fun w1 => ?hy15) ?hn15; (case hw15 => rfl); (case hy15 => (go_simp; (try with_reducible rfl))); (try simp only [Act.put, List.setIfInBounds_toArray, List.set_cons_zero, List.set_cons_succ]))
          (refine TG.callN (f := ?f16) (args := ?r16) (fun v => v = .int .i64 12) gK (by simp only [List.getElem?_toArray, List.getElem?_cons_succ, List.getElem?_cons_zero]; rfl) rfl ?hw16 (fun w1 => ?hy16) (fun T wq kq ltq hSq ub => ?hsp16) ?hn16; (case hw16 => rfl); (case hy16 => (go_simp; (first | with_reducible rfl | (constructor <;> with_reducible rfl)))); (case hsp16 => (have klq := hSq.at kl (by intro hT; first | exact hT | exact absurd hT (by assumption) | (simp only at hT; omega)); exact ((HP.out.bb.mod0 hSq).pushTR r id (by have := HP.out.lenD; omega) (by obtain ⟨y, h1, h2⟩ := HID.out; exact ⟨y, HP.out.perm.mem_iff.2 h1, h2⟩)).mono (fun e w' h => ⟨_, h.1, rfl, h.2⟩))); rintro v16 hC; subst hC; (try simp only [Act.put, List.setIfInBounds_toArray, List.set_cons_zero, List.set_cons_succ]))
          (refine TG.v0 (v := ?v17) (by simp only [List.getElem?_toArray, List.getElem?_cons_succ, List.getElem?_cons_zero]; rfl) rfl ?hw17 (fun w1 => ?hy17) ?hn17; (case hw17 => rfl); (case hy17 => (go_simp; (try with_reducible rfl))); (try simp only [Act.put, List.setIfInBounds_toArray, List.set_cons_zero, List.set_cons_succ]))
          refine TG.nil (fun w3 ⟨TR, hr⟩ => ?_)
          have kl := hr.mod.at kl (by intro hT; first | exact hT | exact absurd hT (by assumption) | (simp only at hT; omega))
          clear gK
          have HN := Lib.hid (HP.out.up hr.mod)
          clear hr HP kl e1 e2 e3 d1
          go_wp2_with fail
          go_at_call 18
          refine (HN.out.bb.alike HN.out.perm HN.out.srt (by have := HN.out.len; omega)).mono ?_
          rintro e w6 ⟨rfl, mq⟩
          have HF := Lib.hid (And.intro (HN.out.bb.mod0 mq) (And.intro HN.out.perm (And.intro HN.out.srt HN.out.len)))
          clear mq HN
          go_wp2_with fail
          go_roundw
          case rel => exact ⟨i + 1, _, _, by omega, by go_num, Lib.hid ⟨HF.out.1, HF.out.2.1, HF.out.2.2.1, HF.out.2.2.2⟩⟩
          case measure => simp [intOf]; omega
        · have HID : Hid (∀ y ∈ C, y.id ≠ id) := Lib.hid (fun y hy e => hid ⟨y, hy, e⟩)
          obtain ⟨T, hB, hT, hmw⟩ := HP.out.bb
          have HT := Lib.hid hT
          have hgT : ¬ T g := fun e => by
            have h1 := (hT g e).1
            have h2 := HG.out.1
            omega
          clear hid hT
          go_upto_region 14 with fail
          have Lkl := lt_size kl
          refine wp_gpass (T0 := T) (K := BBL h p C D) (κ := fun i => [0, 0, 0, 0, 0, 0, 0, 6, 0, 0, 0, 0, 0, 0, 0, 6, 0].getD i 0) (υ := fun i => [[], [], [], [], [], [], [], [], [], [], [], [], [], [], [], [], []].getD i []) [0, 1, 2, 3, 4, 5, 6, 7, 8, 9, 10, 11, 12, 13, 14, 15, 16] (by kernel_rfl) (by kernel_rfl) (goodBB h p C D).cl (hB) (fun i hi => (HT.out i hi).2) ?_
          have gK := goodBB h p C D
          (refine TG.v0 (v := ?v18) (by simp only [List.getElem?_toArray, List.getElem?_cons_succ, List.getElem?_cons_zero]; rfl) rfl ?hw18 (fun w1 => ?hy18) ?hn18; (case hw18 => rfl); (case hy18 => (go_simp; (try with_reducible rfl))); (try simp only [Act.put, List.setIfInBounds_toArray, List.set_cons_zero, List.set_cons_succ]))
          (refine TG.v0 (v := ?v19) (by simp only [List.getElem?_toArray, List.getElem?_cons_succ, List.getElem?_cons_zero]; rfl) rfl ?hw19 (fun w1 => ?hy19) ?hn19; (case hw19 => rfl); (case hy19 => (go_simp; (try with_reducible rfl))); (try simp only [Act.put, List.setIfInBounds_toArray, List.set_cons_zero, List.set_cons_succ]))
          (refine TG.v0 (v := ?v20) (by simp only [List.getElem?_toArray, List.getElem?_cons_succ, List.getElem?_cons_zero]; rfl) rfl ?hw20 (fun w1 => ?hy20) ?hn20; (case hw20 => rfl); (case hy20 => (go_simp; (try with_reducible rfl))); (try simp only [Act.put, List.setIfInBounds_toArray, List.set_cons_zero, List.set_cons_succ]))
          (refine TG.v0 (v := ?v21) (by simp only [List.getElem?_toArray, List.getElem?_cons_succ, List.getElem?_cons_zero]; rfl) rfl ?hw21 (fun w1 => ?hy21) ?hn21; (case hw21 => rfl); (case hy21 => (go_simp; (try with_reducible rfl))); (try simp only [Act.put, List.setIfInBounds_toArray, List.set_cons_zero, List.set_cons_succ]))
          (refine TG.v0 (v := ?v22) (by simp only [List.getElem?_toArray, List.getElem?_cons_succ, List.getElem?_cons_zero]; rfl) rfl ?hw22 (fun w1 => ?hy22) ?hn22; (case hw22 => rfl); (case hy22 => (go_simp; (try with_reducible rfl))); (try simp only [Act.put, List.setIfInBounds_toArray, List.set_cons_zero, List.set_cons_succ]))
          (refine TG.load (v := ?v23) (p := ?p23) (by simp only [List.getElem?_toArray, List.getElem?_cons_succ, List.getElem?_cons_zero]; rfl) rfl ?hw23 rfl ?hx23 (fun wq hSq => ?hy23) ?hn23; (case hw23 => rfl); (case hx23 => (simp only [Act.eval, Array.getD_eq_getD_getElem?, List.getElem?_toArray, List.getElem?_cons_succ, List.getElem?_cons_zero, Option.getD_some]; (try rfl))); (case hy23 => (have klq := hSq.at kl (by intro hT; first | exact hT | exact absurd hT (by assumption) | (simp only at hT; omega)); go_simp; (try with_reducible rfl))); (try simp only [Act.put, List.setIfInBounds_toArray, List.set_cons_zero, List.set_cons_succ]))
          (refine TG.v0 (v := ?v24) (by simp only [List.getElem?_toArray, List.getElem?_cons_succ, List.getElem?_cons_zero]; rfl) rfl ?hw24 (fun w1 => ?hy24) ?hn24; (case hw24 => rfl); (case hy24 => (go_simp; (try with_reducible rfl))); (try simp only [Act.put, List.setIfInBounds_toArray, List.set_cons_zero, List.set_cons_succ]))
          (refine TG.callK (f := ?f25) (args := ?r25) (fun v T w => v = .int .i64 0 ∧ BBL h p (C ++ [⟨r, id⟩]) D T w) (fun v => (Good.pure (v = .int .i64 0)).and (goodBB h p (C ++ [⟨r, id⟩]) D)) (by simp only [List.getElem?_toArray, List.getElem?_cons_succ, List.getElem?_cons_zero]; rfl) rfl ?hw25 (fun w1 => ?hy25) (fun T wq kq ltq hSq ub => ?hsp25) ?hn25; (case hw25 => rfl); (case hy25 => (go_simp; (first | with_reducible rfl | (constructor <;> with_reducible rfl)))); (case hsp25 => (have klq := hSq.at kl (by intro hT; first | exact hT | exact absurd hT (by assumption) | (simp only at hT; omega)); exact BBL.pushH kq r id (by have := HP.out.len; omega) HID.out)); rintro v25 ⟨wI, TI, hI⟩; replace gK := (fun v => (Good.pure (v = .int .i64 0)).and (goodBB h p (C ++ [⟨r, id⟩]) D)) v25; obtain ⟨rfl, _⟩ := hI.k; (try clear hI TI wI); (try simp only [Act.put, List.setIfInBounds_toArray, List.set_cons_zero, List.set_cons_succ]))
          (refine TG.v0 (v := ?v26) (by simp only [List.getElem?_toArray, List.getElem?_cons_succ, List.getElem?_cons_zero]; rfl) rfl ?hw26 (fun w1 => ?hy26) ?hn26; (case hw26 => rfl); (case hy26 => (go_simp; (try with_reducible rfl))); (try simp only [Act.put, List.setIfInBounds_toArray, List.set_cons_zero, List.set_cons_succ]))
          (refine TG.v0 (v := ?v27) (by simp only [List.getElem?_toArray, List.getElem?_cons_succ, List.getElem?_cons_zero]; rfl) rfl ?hw27 (fun w1 => ?hy27) ?hn27; (case hw27 => rfl); (case hy27 => (go_simp; (try with_reducible rfl))); (try simp only [Act.put, List.setIfInBounds_toArray, List.set_cons_zero, List.set_cons_succ]))
          (refine TG.v0 (v := ?v28) (by simp only [List.getElem?_toArray, List.getElem?_cons_succ, List.getElem?_cons_zero]; rfl) rfl ?hw28 (fun w1 => ?hy28) ?hn28; (case hw28 => rfl); (case hy28 => (go_simp; (try with_reducible rfl))); (try simp only [Act.put, List.setIfInBounds_toArray, List.set_cons_zero, List.set_cons_succ]))
          (refine TG.v0 (v := ?v29) (by simp only [List.getElem?_toArray, List.getElem?_cons_succ, List.getElem?_cons_zero]; rfl) rfl ?hw29 (fun w1 => ?hy29) ?hn29; (case hw29 => rfl); (case hy29 => (go_simp; (try with_reducible rfl))); (try simp only [Act.put, List.setIfInBounds_toArray, List.set_cons_zero, List.set_cons_succ]))
          (refine TG.v0 (v := ?v30) (by simp only [List.getElem?_toArray, List.getElem?_cons_succ, List.getElem?_cons_zero]; rfl) rfl ?hw30 (fun w1 => ?hy30) ?hn30; (case hw30 => rfl); (case hy30 => (go_simp; (try with_reducible rfl))); (try simp only [Act.put, List.setIfInBounds_toArray, List.set_cons_zero, List.set_cons_succ]))
          (refine TG.load (v := ?v31) (p := ?p31) (by simp only [List.getElem?_toArray, List.getElem?_cons_succ, List.getElem?_cons_zero]; rfl) rfl ?hw31 rfl ?hx31 (fun wq hSq => ?hy31) ?hn31; (case hw31 => rfl); (case hx31 => (simp only [Act.eval, Array.getD_eq_getD_getElem?, List.getElem?_toArray, List.getElem?_cons_succ, List.getElem?_cons_zero, Option.getD_some]; (try rfl))); (case hy31 => (have klq := hSq.at kl (by intro hT; first | exact hT | exact absurd hT (by assumption) | (simp only at hT; omega)); go_simp; (try with_reducible rfl))); (try simp only [Act.put, List.setIfInBounds_toArray, List.set_cons_zero, List.set_cons_succ]))
          (refine TG.v0 (v := ?v32) (by simp only [List.getElem?_toArray, List.getElem?_cons_succ, List.getElem?_cons_zero]; rfl) rfl ?hw32 (fun w1 => ?hy32) ?hn32; (case hw32 => rfl); (case hy32 => (go_simp; (try with_reducible rfl))); (try simp only [Act.put, List.setIfInBounds_toArray, List.set_cons_zero, List.set_cons_succ]))
          (refine TG.callK (f := ?f33) (args := ?r33) (fun v T w => v = .int .i64 0 ∧ BBL h p (C ++ [⟨r, id⟩]) (insAt ⟨r, id⟩ D) T w) (fun v => (Good.pure (v = .int .i64 0)).and (goodBB h p (C ++ [⟨r, id⟩]) (insAt ⟨r, id⟩ D))) (by simp only [List.getElem?_toArray, List.getElem?_cons_succ, List.getElem?_cons_zero]; rfl) rfl ?hw33 (fun w1 => ?hy33) (fun T wq kq ltq hSq ub => ?hsp33) ?hn33; (case hw33 => rfl); (case hy33 => (go_simp; (first | with_reducible rfl | (constructor <;> with_reducible rfl)))); (case hsp33 => (have klq := hSq.at kl (by intro hT; first | exact hT | exact absurd hT (by assumption) | (simp only at hT; omega)); exact BBL.pushR kq.2 ⟨r, id⟩ (by have := HP.out.lenD; omega) (fun y hy => HID.out y (HP.out.perm.mem_iff.1 hy)))); rintro v33 ⟨wI, TI, hI⟩; replace gK := (fun v => (Good.pure (v = .int .i64 0)).and (goodBB h p (C ++ [⟨r, id⟩]) (insAt ⟨r, id⟩ D))) v33; obtain ⟨rfl, _⟩ := hI.k; (try clear hI TI wI); (try simp only [Act.put, List.setIfInBounds_toArray, List.set_cons_zero, List.set_cons_succ]))
          (refine TG.v0 (v := ?v34) (by simp only [List.getElem?_toArray, List.getElem?_cons_succ, List.getElem?_cons_zero]; rfl) rfl ?hw34 (fun w1 => ?hy34) ?hn34; (case hw34 => rfl); (case hy34 => (go_simp; (try with_reducible rfl))); (try simp only [Act.put, List.setIfInBounds_toArray, List.set_cons_zero, List.set_cons_succ]))
          refine TG.nil (fun w3 ⟨TR, hr⟩ => ?_)
          have kl := hr.mod.at kl (by intro hT; first | exact hT | exact absurd hT (by assumption) | (simp only at hT; omega))
          clear gK
          have HN := Lib.hid (PI.push HP.out HID.out (BB.rt (fun i hi => (HT.out i hi).1) hmw hr hr.k.2))
          clear hr HP kl e1 e2 e3 d1 hB hmw HT hgT HID
          go_wp2_with fail
          go_at_call 18
          refine (HN.out.bb.alike HN.out.perm HN.out.srt (by have := HN.out.len; omega)).mono ?_
          rintro e w6 ⟨rfl, mq⟩
          have HF := Lib.hid (And.intro (HN.out.bb.mod0 mq) (And.intro HN.out.perm (And.intro HN.out.srt HN.out.len)))
          clear mq HN
          go_wp2_with fail
          go_roundw
          case rel => exact ⟨i + 1, _, _, by omega, by go_num, Lib.hid ⟨HF.out.1, HF.out.2.1, HF.out.2.2.1, HF.out.2.2.2⟩⟩
          case measure => simp [intOf]; omega
      · skip
        by_cases hid : ∃ y ∈ C, y.id = id
        · obtain ⟨T, hB, hT, hmw⟩ := HP.out.bb
          have HID := Lib.hid hid
          have HT := Lib.hid hT
          clear hid hT
          go_upto_region 16 with fail
          refine wp_gpass0 (T0 := T) (K := BBL h p C D) (κ := fun i => [0, 0, 6, 0, 0, 0, 3, 4, 0].getD i 0) (υ := fun i => [[], [], [], [], [], [], [], [], []].getD i []) [0, 1, 2, 3, 4, 5, 6, 7, 8] (by kernel_rfl) (by kernel_rfl) (goodBB h p C D).cl (hB) (fun i hi => (HT.out i hi).2) ?_
          have gK := goodBB h p C D
          (refine TG.v0 (v := ?v35) (by simp only [List.getElem?_toArray, List.getElem?_cons_succ, List.getElem?_cons_zero]; rfl) rfl ?hw35 (fun w1 => ?hy35) ?hn35; (case hw35 => rfl); (case hy35 => (go_simp; (try with_reducible rfl))); (try simp only [Act.put, List.setIfInBounds_toArray, List.set_cons_zero, List.set_cons_succ]))
          (refine TG.v0 (v := ?v36) (by simp only [List.getElem?_toArray, List.getElem?_cons_succ, List.getElem?_cons_zero]; rfl) rfl ?hw36 (fun w1 => ?hy36) ?hn36; (case hw36 => rfl); (case hy36 => (go_simp; (try with_reducible rfl))); (try simp only [Act.put, List.setIfInBounds_toArray, List.set_cons_zero, List.set_cons_succ]))
          (refine TG.callK (f := ?f37) (args := ?r37) (fun v T w => (∃ y ∈ C, y.id = id ∧ v = .tuple #[.agg (rkc y.r), .int .i64 0]) ∧ BBL h p (C.eraseP (fun x => x.id == id)) D T w) (fun v => (Good.pure (∃ y ∈ C, y.id = id ∧ v = .tuple #[.agg (rkc y.r), .int .i64 0])).and (goodBB h p (C.eraseP (fun x => x.id == id)) D)) (by simp only [List.getElem?_toArray, List.getElem?_cons_succ, List.getElem?_cons_zero]; rfl) rfl ?hw37 (fun w1 => ?hy37) (fun T wq kq ltq hSq ub => ?hsp37) ?hn37; (case hw37 => rfl); (case hy37 => (go_simp; (first | with_reducible rfl | (constructor <;> with_reducible rfl)))); (case hsp37 => (exact BBL.dropH kq id (by have := HP.out.len; omega) HID.out)); rintro v37 ⟨wI, TI, hI⟩; replace gK := (fun v => (Good.pure (∃ y ∈ C, y.id = id ∧ v = .tuple #[.agg (rkc y.r), .int .i64 0])).and (goodBB h p (C.eraseP (fun x => x.id == id)) D)) v37; obtain ⟨⟨y, hy, hyi, rfl⟩, _⟩ := hI.k; (try clear hI TI wI); (try simp only [Act.put, List.setIfInBounds_toArray, List.set_cons_zero, List.set_cons_succ]))
          (refine TG.v0 (v := ?v38) (by simp only [List.getElem?_toArray, List.getElem?_cons_succ, List.getElem?_cons_zero]; rfl) rfl ?hw38 (fun w1 => ?hy38) ?hn38; (case hw38 => rfl); (case hy38 => (go_simp; (try with_reducible rfl))); (try simp only [Act.put, List.setIfInBounds_toArray, List.set_cons_zero, List.set_cons_succ]))
          (refine TG.v0 (v := ?v39) (by simp only [List.getElem?_toArray, List.getElem?_cons_succ, List.getElem?_cons_zero]; rfl) rfl ?hw39 (fun w1 => ?hy39) ?hn39; (case hw39 => rfl); (case hy39 => (go_simp; (try with_reducible rfl))); (try simp only [Act.put, List.setIfInBounds_toArray, List.set_cons_zero, List.set_cons_succ]))
          (refine TG.v0 (v := ?v40) (by simp only [List.getElem?_toArray, List.getElem?_cons_succ, List.getElem?_cons_zero]; rfl) rfl ?hw40 (fun w1 => ?hy40) ?hn40; (case hw40 => rfl); (case hy40 => (go_simp; (try with_reducible rfl))); (try simp only [Act.put, List.setIfInBounds_toArray, List.set_cons_zero, List.set_cons_succ]))
          (refine TG.allocB (by simp only [List.getElem?_toArray, List.getElem?_cons_succ, List.getElem?_cons_zero]; rfl) rfl ?hw41 rfl rfl alRk (fun p7 hp7 _ => ?hn41); (case hw41 => rfl); (try simp only [Act.put, List.setIfInBounds_toArray, List.set_cons_zero, List.set_cons_succ]))
          (refine TG.storeB (d := ?d42) (T := ?T42) (y := ?y42) (p := ?p42) (b := ?b42) (v := ?v42) (by simp only [List.getElem?_toArray, List.getElem?_cons_succ, List.getElem?_cons_zero]; rfl) rfl ?hw42 ?hd42 ?hop42 ?hev42 ?hx42 ?hb42 ?htag42 (fun w1 hb1 => ?hy42) ?hn42; (case hw42 => rfl); (case hd42 => rfl); (case hop42 => rfl); (case hev42 => (simp only [Act.eval, Array.getD_eq_getD_getElem?, List.getElem?_toArray, List.getElem?_cons_succ, List.getElem?_cons_zero, Option.getD_some]; (try rfl))); (case hx42 => (simp only [Act.eval, Array.getD_eq_getD_getElem?, List.getElem?_toArray, List.getElem?_cons_succ, List.getElem?_cons_zero, Option.getD_some]; (try rfl))); (case hb42 => first | exact Bx.set_same _ _ _ | (simp only [Bx.set_same]; rfl)); (case htag42 => rfl); (case hy42 => (go_simp; (try with_reducible rfl))); (try simp only [Act.put, List.setIfInBounds_toArray, List.set_cons_zero, List.set_cons_succ]))
          (refine TG.v0 (v := ?v43) (by simp only [List.getElem?_toArray, List.getElem?_cons_succ, List.getElem?_cons_zero]; rfl) rfl ?hw43 (fun w1 => ?hy43) ?hn43; (case hw43 => rfl); (case hy43 => (go_simp; (try with_reducible rfl))); (try simp only [Act.put, List.setIfInBounds_toArray, List.set_cons_zero, List.set_cons_succ]))
          refine TG.nil (fun w3 ⟨TR, hr⟩ => ?_)
          have kp7 := hr.box p7 _ (by first | exact Bx.set_same _ _ _ | (simp only [Bx.set_same]; rfl)); dsimp only [Value.cells] at kp7; obtain ⟨gp7, nTp7, kp7⟩ := kp7
          clear gK
          have HB3 := Lib.hid (And.intro hr.k.2 (And.intro hr.lt (BB.rt (fun i hi => (HT.out i hi).1) hmw hr hr.k.2)))
          have hmw3 := HB3.out.2.2.m
          have HT3 := Lib.hid (RT.low (fun i hi => (HT.out i hi).1) hmw hr)
          have HY := Lib.hid (And.intro hy hyi)
          clear hr hB hmw HT hy hyi
          go_upto_region 17 with fail
          have Lkp7 := lt_size kp7
          refine wp_gpass0 (T0 := TR) (K := BBL h p (C.eraseP (fun x => x.id == id)) D) (κ := fun i => [0, 0, 6, 0, 0, 0, 3, 4, 0].getD i 0) (υ := fun i => [[], [], [], [], [], [], [], [], []].getD i []) [0, 1, 2, 3, 4, 5, 6, 7, 8] (by kernel_rfl) (by kernel_rfl) (goodBB h p (C.eraseP (fun x => x.id == id)) D).cl (HB3.out.1) (fun i hi => (HT3.out i hi).2) ?_
          have gK := goodBB h p (C.eraseP (fun x => x.id == id)) D
          (refine TG.v0 (v := ?v44) (by simp only [List.getElem?_toArray, List.getElem?_cons_succ, List.getElem?_cons_zero]; rfl) rfl ?hw44 (fun w1 => ?hy44) ?hn44; (case hw44 => rfl); (case hy44 => (go_simp; (try with_reducible rfl))); (try simp only [Act.put, List.setIfInBounds_toArray, List.set_cons_zero, List.set_cons_succ]))
          (refine TG.v0 (v := ?v45) (by simp only [List.getElem?_toArray, List.getElem?_cons_succ, List.getElem?_cons_zero]; rfl) rfl ?hw45 (fun w1 => ?hy45) ?hn45; (case hw45 => rfl); (case hy45 => (go_simp; (try with_reducible rfl))); (try simp only [Act.put, List.setIfInBounds_toArray, List.set_cons_zero, List.set_cons_succ]))
          (refine TG.callK (f := ?f46) (args := ?r46) (fun v T w => ∃ (j : Nat) (z : Nd), (D[j]? = some z ∧ z.id = id ∧ v = .tuple #[.agg (rkc z.r), .int .i64 0]) ∧ BBL h p (C.eraseP (fun x => x.id == id)) (D.eraseIdx j) T w) (fun v => Good.ex fun j => Good.ex fun z => (Good.pure (D[j]? = some z ∧ z.id = id ∧ v = .tuple #[.agg (rkc z.r), .int .i64 0])).and (goodBB h p (C.eraseP (fun x => x.id == id)) (D.eraseIdx j))) (by simp only [List.getElem?_toArray, List.getElem?_cons_succ, List.getElem?_cons_zero]; rfl) rfl ?hw46 (fun w1 => ?hy46) (fun T wq kq ltq hSq ub => ?hsp46) ?hn46; (case hw46 => rfl); (case hy46 => (go_simp; (first | with_reducible rfl | (constructor <;> with_reducible rfl)))); (case hsp46 => (have kp7q := hSq.at kp7 (by intro hT; first | exact hT | exact absurd hT (by assumption) | (simp only at hT; omega)); exact (BBL.dropR kq id (by have := HP.out.lenD; omega) (by obtain ⟨y, h1, h2⟩ := HID.out; exact ⟨y, HP.out.perm.mem_iff.2 h1, h2⟩)).mono (fun e w' hh => by obtain ⟨v, q1, q2, j, z, q3, q4, q5, q6⟩ := hh; exact ⟨v, q1, q2, j, z, ⟨q3, q4, q5⟩, q6⟩))); rintro v46 ⟨wI, TI, hI⟩; replace gK := (fun v => Good.ex fun j => Good.ex fun z => (Good.pure (D[j]? = some z ∧ z.id = id ∧ v = .tuple #[.agg (rkc z.r), .int .i64 0])).and (goodBB h p (C.eraseP (fun x => x.id == id)) (D.eraseIdx j))) v46; obtain ⟨j0, z, ⟨hz, hzi, rfl⟩, _⟩ := hI.k; (try clear hI TI wI); (try simp only [Act.put, List.setIfInBounds_toArray, List.set_cons_zero, List.set_cons_succ]))
          (refine TG.v0 (v := ?v47) (by simp only [List.getElem?_toArray, List.getElem?_cons_succ, List.getElem?_cons_zero]; rfl) rfl ?hw47 (fun w1 => ?hy47) ?hn47; (case hw47 => rfl); (case hy47 => (go_simp; (try with_reducible rfl))); (try simp only [Act.put, List.setIfInBounds_toArray, List.set_cons_zero, List.set_cons_succ]))
          (refine TG.v0 (v := ?v48) (by simp only [List.getElem?_toArray, List.getElem?_cons_succ, List.getElem?_cons_zero]; rfl) rfl ?hw48 (fun w1 => ?hy48) ?hn48; (case hw48 => rfl); (case hy48 => (go_simp; (try with_reducible rfl))); (try simp only [Act.put, List.setIfInBounds_toArray, List.set_cons_zero, List.set_cons_succ]))
          (refine TG.v0 (v := ?v49) (by simp only [List.getElem?_toArray, List.getElem?_cons_succ, List.getElem?_cons_zero]; rfl) rfl ?hw49 (fun w1 => ?hy49) ?hn49; (case hw49 => rfl); (case hy49 => (go_simp; (try with_reducible rfl))); (try simp only [Act.put, List.setIfInBounds_toArray, List.set_cons_zero, List.set_cons_succ]))
          (refine TG.allocB (by simp only [List.getElem?_toArray, List.getElem?_cons_succ, List.getElem?_cons_zero]; rfl) rfl ?hw50 rfl rfl alRk (fun p9 hp9 _ => ?hn50); (case hw50 => rfl); (try simp only [Act.put, List.setIfInBounds_toArray, List.set_cons_zero, List.set_cons_succ]))
          (refine TG.storeB (d := ?d51) (T := ?T51) (y := ?y51) (p := ?p51) (b := ?b51) (v := ?v51) (by simp only [List.getElem?_toArray, List.getElem?_cons_succ, List.getElem?_cons_zero]; rfl) rfl ?hw51 ?hd51 ?hop51 ?hev51 ?hx51 ?hb51 ?htag51 (fun w1 hb1 => ?hy51) ?hn51; (case hw51 => rfl); (case hd51 => rfl); (case hop51 => rfl); (case hev51 => (simp only [Act.eval, Array.getD_eq_getD_getElem?, List.getElem?_toArray, List.getElem?_cons_succ, List.getElem?_cons_zero, Option.getD_some]; (try rfl))); (case hx51 => (simp only [Act.eval, Array.getD_eq_getD_getElem?, List.getElem?_toArray, List.getElem?_cons_succ, List.getElem?_cons_zero, Option.getD_some]; (try rfl))); (case hb51 => first | exact Bx.set_same _ _ _ | (simp only [Bx.set_same]; rfl)); (case htag51 => rfl); (case hy51 => (go_simp; (try with_reducible rfl))); (try simp only [Act.put, List.setIfInBounds_toArray, List.set_cons_zero, List.set_cons_succ]))
          (refine TG.v0 (v := ?v52) (by simp only [List.getElem?_toArray, List.getElem?_cons_succ, List.getElem?_cons_zero]; rfl) rfl ?hw52 (fun w1 => ?hy52) ?hn52; (case hw52 => rfl); (case hy52 => (go_simp; (try with_reducible rfl))); (try simp only [Act.put, List.setIfInBounds_toArray, List.set_cons_zero, List.set_cons_succ]))
          refine TG.nil (fun w4 ⟨TR, hr⟩ => ?_)
          have kp7 := hr.mod.at kp7 (by intro hT; first | exact hT | exact absurd hT (by assumption) | (simp only at hT; omega))
          have kp9 := hr.box p9 _ (by first | exact Bx.set_same _ _ _ | (simp only [Bx.set_same]; rfl)); dsimp only [Value.cells] at kp9; obtain ⟨gp9, nTp9, kp9⟩ := kp9
          clear gK
          have hzy : z = y := same_id HP.out.bb.ids (HP.out.perm.mem_iff.1 (List.mem_of_getElem? hz)) HY.out.1 (by rw [hzi, HY.out.2])
          subst hzy
          obtain ⟨j1, z1, ⟨hz1, hzi1, _⟩, hB1⟩ := hr.k
          have HN0 := Lib.hid (PI.drop HP.out hz1 hzi1 (BB.rt (fun i hi => (HT3.out i hi).1) hmw3 hr hB1))
          clear hr hz hzi hz1 hzi1 hB1 hmw3 HT3 HB3
          go_upto_region 18 with fail
          have Lkp7 := lt_size kp7
          have Lkp9 := lt_size kp9
          refine wp_pass0 (C := fun _ _ _ => False) (κ := fun i => [1, 1, 0, 0, 0, 0, 0, 0].getD i 0) [0, 1, 2, 3, 4, 5, 6, 7] (by kernel_rfl) (by kernel_rfl) (fun _ _ d _ _ h => by cases d <;> exact h) ?_
          (refine TD.load (v := ?v53) (p := ?p53) (Mod.refl _ _) (by simp only [List.getElem?_toArray, List.getElem?_cons_succ, List.getElem?_cons_zero]; rfl) rfl ?hw53 rfl ?hx53 (fun wq hSq => ?hy53) ?hn53; (case hw53 => rfl); (case hx53 => (simp only [Act.eval, Array.getD_eq_getD_getElem?, List.getElem?_toArray, List.getElem?_cons_succ, List.getElem?_cons_zero, Option.getD_some]; (try rfl))); (case hy53 => (have kp7q := hSq.at kp7 (fun h => h); have kp9q := hSq.at kp9 (fun h => h); go_simp; (try with_reducible rfl))); (try simp only [Act.put, List.setIfInBounds_toArray, List.set_cons_zero, List.set_cons_succ]))
          (refine TD.load (v := ?v54) (p := ?p54) (Mod.refl _ _) (by simp only [List.getElem?_toArray, List.getElem?_cons_succ, List.getElem?_cons_zero]; rfl) rfl ?hw54 rfl ?hx54 (fun wq hSq => ?hy54) ?hn54; (case hw54 => rfl); (case hx54 => (simp only [Act.eval, Array.getD_eq_getD_getElem?, List.getElem?_toArray, List.getElem?_cons_succ, List.getElem?_cons_zero, Option.getD_some]; (try rfl))); (case hy54 => (have kp7q := hSq.at kp7 (fun h => h); have kp9q := hSq.at kp9 (fun h => h); go_simp; (try with_reducible rfl))); (try simp only [Act.put, List.setIfInBounds_toArray, List.set_cons_zero, List.set_cons_succ]))
          (refine TD.val0 (v := ?v55) (by simp only [List.getElem?_toArray, List.getElem?_cons_succ, List.getElem?_cons_zero]; rfl) rfl ?hw55 (fun w1 => ?hy55) ?hn55; (case hw55 => rfl); (case hy55 => (simp only [execOp, Act.eval, Array.getD_eq_getD_getElem?, List.getElem?_toArray, List.getElem?_cons_succ, List.getElem?_cons_zero, Option.getD_some, rkc_ext]; go_simp; (try with_reducible rfl))); (try simp only [Act.put, List.setIfInBounds_toArray, List.set_cons_zero, List.set_cons_succ]))
          (refine TD.val0 (v := ?v56) (by simp only [List.getElem?_toArray, List.getElem?_cons_succ, List.getElem?_cons_zero]; rfl) rfl ?hw56 (fun w1 => ?hy56) ?hn56; (case hw56 => rfl); (case hy56 => (go_simp; (try with_reducible rfl))); (try simp only [Act.put, List.setIfInBounds_toArray, List.set_cons_zero, List.set_cons_succ]))
          (refine TD.val0 (v := ?v57) (by simp only [List.getElem?_toArray, List.getElem?_cons_succ, List.getElem?_cons_zero]; rfl) rfl ?hw57 (fun w1 => ?hy57) ?hn57; (case hw57 => rfl); (case hy57 => (go_simp; (try with_reducible rfl))); (try simp only [Act.put, List.setIfInBounds_toArray, List.set_cons_zero, List.set_cons_succ]))
          (refine TD.val0 (v := ?v58) (by simp only [List.getElem?_toArray, List.getElem?_cons_succ, List.getElem?_cons_zero]; rfl) rfl ?hw58 (fun w1 => ?hy58) ?hn58; (case hw58 => rfl); (case hy58 => (go_simp; (try with_reducible rfl))); (try simp only [Act.put, List.setIfInBounds_toArray, List.set_cons_zero, List.set_cons_succ]))
          (refine TD.val0 (v := ?v59) (by simp only [List.getElem?_toArray, List.getElem?_cons_succ, List.getElem?_cons_zero]; rfl) rfl ?hw59 (fun w1 => ?hy59) ?hn59; (case hw59 => rfl); (case hy59 => (go_simp; (try with_reducible rfl))); (try simp only [Act.put, List.setIfInBounds_toArray, List.set_cons_zero, List.set_cons_succ]))
          (refine TD.val0 (v := ?v60) (by simp only [List.getElem?_toArray, List.getElem?_cons_succ, List.getElem?_cons_zero]; rfl) rfl ?hw60 (fun w1 => ?hy60) ?hn60; (case hw60 => rfl); (case hy60 => (go_simp; (try with_reducible rfl))); (try simp only [Act.put, List.setIfInBounds_toArray, List.set_cons_zero, List.set_cons_succ]))
          refine TD.nil (fun w5 hr => ?_)
          have kp7 := hr.mod.at kp7 (fun h => h)
          have kp9 := hr.mod.at kp9 (fun h => h)
          have HN := Lib.hid (show PI w h p (i + 1) _ _ _ from ⟨HN0.out.bb.mod0 hr.mod, HN0.out.perm, HN0.out.srt, HN0.out.len⟩)
          clear hr HN0 kp7 kp9 HP kl e1 e2 e3 d1
          go_wp2_with fail
          go_at_call 18
          refine (HN.out.bb.alike HN.out.perm HN.out.srt (by have := HN.out.len; omega)).mono ?_
          rintro e w6 ⟨rfl, mq⟩
          have HF := Lib.hid (And.intro (HN.out.bb.mod0 mq) (And.intro HN.out.perm (And.intro HN.out.srt HN.out.len)))
          clear mq HN
          go_wp2_with fail
          go_roundw
          case rel => exact ⟨i + 1, _, _, by omega, by go_num, Lib.hid ⟨HF.out.1, HF.out.2.1, HF.out.2.2.1, HF.out.2.2.2⟩⟩
          case measure => simp [intOf]; omega
        · have HID : Hid (∀ y ∈ C, y.id ≠ id) := Lib.hid (fun y hy e => hid ⟨y, hy, e⟩)
          clear hid
          go_upto_region 16 with fail
          refine wp_pass0 (C := fun _ _ v => v = .tuple #[.agg (rkc rk0), .int .i64 11]) (κ := fun i => [0, 0, 2, 0, 0, 0, 3, 4, 0].getD i 0) [0, 1, 2, 3, 4, 5, 6, 7, 8] (by kernel_rfl) (by kernel_rfl) (fun _ _ d _ _ h => by cases d <;> exact h) ?_
          (refine TD.val0 (v := ?v61) (by simp only [List.getElem?_toArray, List.getElem?_cons_succ, List.getElem?_cons_zero]; rfl) rfl ?hw61 (fun w1 => ?hy61) ?hn61; (case hw61 => rfl); (case hy61 => (go_simp; (try with_reducible rfl))); (try simp only [Act.put, List.setIfInBounds_toArray, List.set_cons_zero, List.set_cons_succ]))
          (refine TD.val0 (v := ?v62) (by simp only [List.getElem?_toArray, List.getElem?_cons_succ, List.getElem?_cons_zero]; rfl) rfl ?hw62 (fun w1 => ?hy62) ?hn62; (case hw62 => rfl); (case hy62 => (go_simp; (try with_reducible rfl))); (try simp only [Act.put, List.setIfInBounds_toArray, List.set_cons_zero, List.set_cons_succ]))
          (refine TD.call (f := ?f63) (args := ?r63) (Mod.refl _ _) (by simp only [List.getElem?_toArray, List.getElem?_cons_succ, List.getElem?_cons_zero]; rfl) rfl ?hw63 (fun w1 => ?hy63) ?hsp63 ?hn63; (case hw63 => rfl); (case hy63 => (go_simp; (first | with_reducible rfl | (constructor <;> with_reducible rfl)))); (case hsp63 => (intro wq hSq; exact ((HP.out.bb.mod0 hSq).dropNH id HID.out).mono (fun e w' h => ⟨_, h.1, rfl, h.2⟩))); rintro _ rfl; (try simp only [Act.put, List.setIfInBounds_toArray, List.set_cons_zero, List.set_cons_succ]))
          (refine TD.val0 (v := ?v64) (by simp only [List.getElem?_toArray, List.getElem?_cons_succ, List.getElem?_cons_zero]; rfl) rfl ?hw64 (fun w1 => ?hy64) ?hn64; (case hw64 => rfl); (case hy64 => (go_simp; (try with_reducible rfl))); (try simp only [Act.put, List.setIfInBounds_toArray, List.set_cons_zero, List.set_cons_succ]))
          (refine TD.val0 (v := ?v65) (by simp only [List.getElem?_toArray, List.getElem?_cons_succ, List.getElem?_cons_zero]; rfl) rfl ?hw65 (fun w1 => ?hy65) ?hn65; (case hw65 => rfl); (case hy65 => (go_simp; (try with_reducible rfl))); (try simp only [Act.put, List.setIfInBounds_toArray, List.set_cons_zero, List.set_cons_succ]))
          (refine TD.val0 (v := ?v66) (by simp only [List.getElem?_toArray, List.getElem?_cons_succ, List.getElem?_cons_zero]; rfl) rfl ?hw66 (fun w1 => ?hy66) ?hn66; (case hw66 => rfl); (case hy66 => (go_simp; (try with_reducible rfl))); (try simp only [Act.put, List.setIfInBounds_toArray, List.set_cons_zero, List.set_cons_succ]))
          (refine TD.allocB (by simp only [List.getElem?_toArray, List.getElem?_cons_succ, List.getElem?_cons_zero]; rfl) rfl ?hw67 rfl rfl alRk (fun p7 hp7 => ?hn67); (case hw67 => rfl); (try simp only [Act.put, List.setIfInBounds_toArray, List.set_cons_zero, List.set_cons_succ]))
          (refine TD.storeB (d := ?d68) (T := ?T68) (y := ?y68) (p := ?p68) (b := ?b68) (v := ?v68) (by simp only [List.getElem?_toArray, List.getElem?_cons_succ, List.getElem?_cons_zero]; rfl) rfl ?hw68 ?hd68 ?hop68 ?hev68 ?hx68 ?hb68 ?htag68 (fun w1 hb1 => ?hy68) ?hn68; (case hw68 => rfl); (case hd68 => rfl); (case hop68 => rfl); (case hev68 => (simp only [Act.eval, Array.getD_eq_getD_getElem?, List.getElem?_toArray, List.getElem?_cons_succ, List.getElem?_cons_zero, Option.getD_some]; (try rfl))); (case hx68 => (simp only [Act.eval, Array.getD_eq_getD_getElem?, List.getElem?_toArray, List.getElem?_cons_succ, List.getElem?_cons_zero, Option.getD_some]; (try rfl))); (case hb68 => first | exact Bx.set_same _ _ _ | (simp only [Bx.set_same]; rfl)); (case hy68 => (go_simp; (try with_reducible rfl))); (try simp only [Act.put, List.setIfInBounds_toArray, List.set_cons_zero, List.set_cons_succ]))
          (refine TD.val0 (v := ?v69) (by simp only [List.getElem?_toArray, List.getElem?_cons_succ, List.getElem?_cons_zero]; rfl) rfl ?hw69 (fun w1 => ?hy69) ?hn69; (case hw69 => rfl); (case hy69 => (go_simp; (try with_reducible rfl))); (try simp only [Act.put, List.setIfInBounds_toArray, List.set_cons_zero, List.set_cons_succ]))
          refine TD.nil (fun w3 hr => ?_)
          have kp7 := hr.box p7 _ (by first | exact Bx.set_same _ _ _ | (simp only [Bx.set_same]; rfl)); dsimp only [Value.cells] at kp7; obtain ⟨gp7, kp7⟩ := kp7
          have q3 := hr.mod
          clear hr
          go_upto_region 17 with fail
          have Lkp7 := lt_size kp7
          refine wp_pass0 (C := fun _ _ v => v = .tuple #[.agg (rkc rk0), .int .i64 11]) (κ := fun i => [0, 0, 2, 0, 0, 0, 3, 4, 0].getD i 0) [0, 1, 2, 3, 4, 5, 6, 7, 8] (by kernel_rfl) (by kernel_rfl) (fun _ _ d _ _ h => by cases d <;> exact h) ?_
          (refine TD.val0 (v := ?v70) (by simp only [List.getElem?_toArray, List.getElem?_cons_succ, List.getElem?_cons_zero]; rfl) rfl ?hw70 (fun w1 => ?hy70) ?hn70; (case hw70 => rfl); (case hy70 => (go_simp; (try with_reducible rfl))); (try simp only [Act.put, List.setIfInBounds_toArray, List.set_cons_zero, List.set_cons_succ]))
          (refine TD.val0 (v := ?v71) (by simp only [List.getElem?_toArray, List.getElem?_cons_succ, List.getElem?_cons_zero]; rfl) rfl ?hw71 (fun w1 => ?hy71) ?hn71; (case hw71 => rfl); (case hy71 => (go_simp; (try with_reducible rfl))); (try simp only [Act.put, List.setIfInBounds_toArray, List.set_cons_zero, List.set_cons_succ]))
          (refine TD.call (f := ?f72) (args := ?r72) (Mod.refl _ _) (by simp only [List.getElem?_toArray, List.getElem?_cons_succ, List.getElem?_cons_zero]; rfl) rfl ?hw72 (fun w1 => ?hy72) ?hsp72 ?hn72; (case hw72 => rfl); (case hy72 => (go_simp; (first | with_reducible rfl | (constructor <;> with_reducible rfl)))); (case hsp72 => (intro wq hSq; have kp7q := hSq.at kp7 (fun h => h); exact ((HP.out.bb.mod0 (q3.then0 hSq)).dropNR id (by have := HP.out.lenD; omega) (fun y hy => HID.out y (HP.out.perm.mem_iff.1 hy))).mono (fun e w' h => ⟨_, h.1, rfl, h.2⟩))); rintro _ rfl; (try simp only [Act.put, List.setIfInBounds_toArray, List.set_cons_zero, List.set_cons_succ]))
          (refine TD.val0 (v := ?v73) (by simp only [List.getElem?_toArray, List.getElem?_cons_succ, List.getElem?_cons_zero]; rfl) rfl ?hw73 (fun w1 => ?hy73) ?hn73; (case hw73 => rfl); (case hy73 => (go_simp; (try with_reducible rfl))); (try simp only [Act.put, List.setIfInBounds_toArray, List.set_cons_zero, List.set_cons_succ]))
          (refine TD.val0 (v := ?v74) (by simp only [List.getElem?_toArray, List.getElem?_cons_succ, List.getElem?_cons_zero]; rfl) rfl ?hw74 (fun w1 => ?hy74) ?hn74; (case hw74 => rfl); (case hy74 => (go_simp; (try with_reducible rfl))); (try simp only [Act.put, List.setIfInBounds_toArray, List.set_cons_zero, List.set_cons_succ]))
          (refine TD.val0 (v := ?v75) (by simp only [List.getElem?_toArray, List.getElem?_cons_succ, List.getElem?_cons_zero]; rfl) rfl ?hw75 (fun w1 => ?hy75) ?hn75; (case hw75 => rfl); (case hy75 => (go_simp; (try with_reducible rfl))); (try simp only [Act.put, List.setIfInBounds_toArray, List.set_cons_zero, List.set_cons_succ]))
          (refine TD.allocB (by simp only [List.getElem?_toArray, List.getElem?_cons_succ, List.getElem?_cons_zero]; rfl) rfl ?hw76 rfl rfl alRk (fun p9 hp9 => ?hn76); (case hw76 => rfl); (try simp only [Act.put, List.setIfInBounds_toArray, List.set_cons_zero, List.set_cons_succ]))
          (refine TD.storeB (d := ?d77) (T := ?T77) (y := ?y77) (p := ?p77) (b := ?b77) (v := ?v77) (by simp only [List.getElem?_toArray, List.getElem?_cons_succ, List.getElem?_cons_zero]; rfl) rfl ?hw77 ?hd77 ?hop77 ?hev77 ?hx77 ?hb77 ?htag77 (fun w1 hb1 => ?hy77) ?hn77; (case hw77 => rfl); (case hd77 => rfl); (case hop77 => rfl); (case hev77 => (simp only [Act.eval, Array.getD_eq_getD_getElem?, List.getElem?_toArray, List.getElem?_cons_succ, List.getElem?_cons_zero, Option.getD_some]; (try rfl))); (case hx77 => (simp only [Act.eval, Array.getD_eq_getD_getElem?, List.getElem?_toArray, List.getElem?_cons_succ, List.getElem?_cons_zero, Option.getD_some]; (try rfl))); (case hb77 => first | exact Bx.set_same _ _ _ | (simp only [Bx.set_same]; rfl)); (case hy77 => (go_simp; (try with_reducible rfl))); (try simp only [Act.put, List.setIfInBounds_toArray, List.set_cons_zero, List.set_cons_succ]))
          (refine TD.val0 (v := ?v78) (by simp only [List.getElem?_toArray, List.getElem?_cons_succ, List.getElem?_cons_zero]; rfl) rfl ?hw78 (fun w1 => ?hy78) ?hn78; (case hw78 => rfl); (case hy78 => (go_simp; (try with_reducible rfl))); (try simp only [Act.put, List.setIfInBounds_toArray, List.set_cons_zero, List.set_cons_succ]))
          refine TD.nil (fun w4 hr => ?_)
          have kp7 := hr.mod.at kp7 (fun h => h)
          have kp9 := hr.box p9 _ (by first | exact Bx.set_same _ _ _ | (simp only [Bx.set_same]; rfl)); dsimp only [Value.cells] at kp9; obtain ⟨gp9, kp9⟩ := kp9
          have q4 := q3.then0 hr.mod
          clear hr
          go_upto_region 18 with fail
          have Lkp7 := lt_size kp7
          have Lkp9 := lt_size kp9
          refine wp_pass0 (C := fun _ _ _ => False) (κ := fun i => [1, 1, 0, 0, 0, 0, 0, 0].getD i 0) [0, 1, 2, 3, 4, 5, 6, 7] (by kernel_rfl) (by kernel_rfl) (fun _ _ d _ _ h => by cases d <;> exact h) ?_
          (refine TD.load (v := ?v79) (p := ?p79) (Mod.refl _ _) (by simp only [List.getElem?_toArray, List.getElem?_cons_succ, List.getElem?_cons_zero]; rfl) rfl ?hw79 rfl ?hx79 (fun wq hSq => ?hy79) ?hn79; (case hw79 => rfl); (case hx79 => (simp only [Act.eval, Array.getD_eq_getD_getElem?, List.getElem?_toArray, List.getElem?_cons_succ, List.getElem?_cons_zero, Option.getD_some]; (try rfl))); (case hy79 => (have kp7q := hSq.at kp7 (fun h => h); have kp9q := hSq.at kp9 (fun h => h); go_simp; (try with_reducible rfl))); (try simp only [Act.put, List.setIfInBounds_toArray, List.set_cons_zero, List.set_cons_succ]))
          (refine TD.load (v := ?v80) (p := ?p80) (Mod.refl _ _) (by simp only [List.getElem?_toArray, List.getElem?_cons_succ, List.getElem?_cons_zero]; rfl) rfl ?hw80 rfl ?hx80 (fun wq hSq => ?hy80) ?hn80; (case hw80 => rfl); (case hx80 => (simp only [Act.eval, Array.getD_eq_getD_getElem?, List.getElem?_toArray, List.getElem?_cons_succ, List.getElem?_cons_zero, Option.getD_some]; (try rfl))); (case hy80 => (have kp7q := hSq.at kp7 (fun h => h); have kp9q := hSq.at kp9 (fun h => h); go_simp; (try with_reducible rfl))); (try simp only [Act.put, List.setIfInBounds_toArray, List.set_cons_zero, List.set_cons_succ]))
          (refine TD.val0 (v := ?v81) (by simp only [List.getElem?_toArray, List.getElem?_cons_succ, List.getElem?_cons_zero]; rfl) rfl ?hw81 (fun w1 => ?hy81) ?hn81; (case hw81 => rfl); (case hy81 => (simp only [execOp, Act.eval, Array.getD_eq_getD_getElem?, List.getElem?_toArray, List.getElem?_cons_succ, List.getElem?_cons_zero, Option.getD_some, rkc_ext]; go_simp; (try with_reducible rfl))); (try simp only [Act.put, List.setIfInBounds_toArray, List.set_cons_zero, List.set_cons_succ]))
          (refine TD.val0 (v := ?v82) (by simp only [List.getElem?_toArray, List.getElem?_cons_succ, List.getElem?_cons_zero]; rfl) rfl ?hw82 (fun w1 => ?hy82) ?hn82; (case hw82 => rfl); (case hy82 => (go_simp; (try with_reducible rfl))); (try simp only [Act.put, List.setIfInBounds_toArray, List.set_cons_zero, List.set_cons_succ]))
          (refine TD.val0 (v := ?v83) (by simp only [List.getElem?_toArray, List.getElem?_cons_succ, List.getElem?_cons_zero]; rfl) rfl ?hw83 (fun w1 => ?hy83) ?hn83; (case hw83 => rfl); (case hy83 => (go_simp; (try with_reducible rfl))); (try simp only [Act.put, List.setIfInBounds_toArray, List.set_cons_zero, List.set_cons_succ]))
          (refine TD.val0 (v := ?v84) (by simp only [List.getElem?_toArray, List.getElem?_cons_succ, List.getElem?_cons_zero]; rfl) rfl ?hw84 (fun w1 => ?hy84) ?hn84; (case hw84 => rfl); (case hy84 => (go_simp; (try with_reducible rfl))); (try simp only [Act.put, List.setIfInBounds_toArray, List.set_cons_zero, List.set_cons_succ]))
          (refine TD.val0 (v := ?v85) (by simp only [List.getElem?_toArray, List.getElem?_cons_succ, List.getElem?_cons_zero]; rfl) rfl ?hw85 (fun w1 => ?hy85) ?hn85; (case hw85 => rfl); (case hy85 => (go_simp; (try with_reducible rfl))); (try simp only [Act.put, List.setIfInBounds_toArray, List.set_cons_zero, List.set_cons_succ]))
          (refine TD.val0 (v := ?v86) (by simp only [List.getElem?_toArray, List.getElem?_cons_succ, List.getElem?_cons_zero]; rfl) rfl ?hw86 (fun w1 => ?hy86) ?hn86; (case hw86 => rfl); (case hy86 => (go_simp; (try with_reducible rfl))); (try simp only [Act.put, List.setIfInBounds_toArray, List.set_cons_zero, List.set_cons_succ]))
          refine TD.nil (fun w5 hr => ?_)
          have kp7 := hr.mod.at kp7 (fun h => h)
          have kp9 := hr.mod.at kp9 (fun h => h)
          have HN := Lib.hid (HP.out.up (q4.then0 hr.mod))
          clear hr q3 q4 kp7 kp9 HP kl e1 e2 e3 d1
          go_wp2_with fail
          go_at_call 18
          refine (HN.out.bb.alike HN.out.perm HN.out.srt (by have := HN.out.len; omega)).mono ?_
          rintro e w6 ⟨rfl, mq⟩
          have HF := Lib.hid (And.intro (HN.out.bb.mod0 mq) (And.intro HN.out.perm (And.intro HN.out.srt HN.out.len)))
          clear mq HN
          go_wp2_with fail
          go_roundw
          case rel => exact ⟨i + 1, _, _, by omega, by go_num, Lib.hid ⟨HF.out.1, HF.out.2.1, HF.out.2.2.1, HF.out.2.2.2⟩⟩
          case measure => simp [intOf]; omega
      · have hid0 := HP.out.bb.rtop
        generalize enOf D.head? = t at hid0
        go_wp2_with fail
        go_at_call 12
        refine hid0.mono ?_
        rintro e w2 ⟨he0, mq⟩
        obtain rfl : e = .returned (.tuple #[.agg (rkc t.r), .int .i64 t.id.toInt, .bool t.ok]) := he0
        replace kl := mq.at0 kl
        have HP2 : Hid (PI w h p i C D w2) := Lib.hid ⟨HP.out.bb.mod0 mq, HP.out.perm, HP.out.srt, HP.out.len⟩
        clear mq HP hid0
        have HP := HP2
        clear HP2
        generalize t.id = id at *
        by_cases hid : ∃ y ∈ C, y.id = id
        · obtain ⟨T, hB, hT, hmw⟩ := HP.out.bb
          have HID := Lib.hid hid
          have HT := Lib.hid hT
          clear hid hT
          go_upto_region 16 with fail
          refine wp_gpass0 (T0 := T) (K := BBL h p C D) (κ := fun i => [0, 0, 6, 0, 0, 0, 3, 4, 0].getD i 0) (υ := fun i => [[], [], [], [], [], [], [], [], []].getD i []) [0, 1, 2, 3, 4, 5, 6, 7, 8] (by kernel_rfl) (by kernel_rfl) (goodBB h p C D).cl (hB) (fun i hi => (HT.out i hi).2) ?_
          have gK := goodBB h p C D
          (refine TG.v0 (v := ?v87) (by simp only [List.getElem?_toArray, List.getElem?_cons_succ, List.getElem?_cons_zero]; rfl) rfl ?hw87 (fun w1 => ?hy87) ?hn87; (case hw87 => rfl); (case hy87 => (go_simp; (try with_reducible rfl))); (try simp only [Act.put, List.setIfInBounds_toArray, List.set_cons_zero, List.set_cons_succ]))
          (refine TG.v0 (v := ?v88) (by simp only [List.getElem?_toArray, List.getElem?_cons_succ, List.getElem?_cons_zero]; rfl) rfl ?hw88 (fun w1 => ?hy88) ?hn88; (case hw88 => rfl); (case hy88 => (go_simp; (try with_reducible rfl))); (try simp only [Act.put, List.setIfInBounds_toArray, List.set_cons_zero, List.set_cons_succ]))
          (refine TG.callK (f := ?f89) (args := ?r89) (fun v T w => (∃ y ∈ C, y.id = id ∧ v = .tuple #[.agg (rkc y.r), .int .i64 0]) ∧ BBL h p (C.eraseP (fun x => x.id == id)) D T w) (fun v => (Good.pure (∃ y ∈ C, y.id = id ∧ v = .tuple #[.agg (rkc y.r), .int .i64 0])).and (goodBB h p (C.eraseP (fun x => x.id == id)) D)) (by simp only [List.getElem?_toArray, List.getElem?_cons_succ, List.getElem?_cons_zero]; rfl) rfl ?hw89 (fun w1 => ?hy89) (fun T wq kq ltq hSq ub => ?hsp89) ?hn89; (case hw89 => rfl); (case hy89 => (go_simp; (first | with_reducible rfl | (constructor <;> with_reducible rfl)))); (case hsp89 => (exact BBL.dropH kq id (by have := HP.out.len; omega) HID.out)); rintro v89 ⟨wI, TI, hI⟩; replace gK := (fun v => (Good.pure (∃ y ∈ C, y.id = id ∧ v = .tuple #[.agg (rkc y.r), .int .i64 0])).and (goodBB h p (C.eraseP (fun x => x.id == id)) D)) v89; obtain ⟨⟨y, hy, hyi, rfl⟩, _⟩ := hI.k; (try clear hI TI wI); (try simp only [Act.put, List.setIfInBounds_toArray, List.set_cons_zero, List.set_cons_succ]))
          (refine TG.v0 (v := ?v90) (by simp only [List.getElem?_toArray, List.getElem?_cons_succ, List.getElem?_cons_zero]; rfl) rfl ?hw90 (fun w1 => ?hy90) ?hn90; (case hw90 => rfl); (case hy90 => (go_simp; (try with_reducible rfl))); (try simp only [Act.put, List.setIfInBounds_toArray, List.set_cons_zero, List.set_cons_succ]))
          (refine TG.v0 (v := ?v91) (by simp only [List.getElem?_toArray, List.getElem?_cons_succ, List.getElem?_cons_zero]; rfl) rfl ?hw91 (fun w1 => ?hy91) ?hn91; (case hw91 => rfl); (case hy91 => (go_simp; (try with_reducible rfl))); (try simp only [Act.put, List.setIfInBounds_toArray, List.set_cons_zero, List.set_cons_succ]))
          (refine TG.v0 (v := ?v92) (by simp only [List.getElem?_toArray, List.getElem?_cons_succ, List.getElem?_cons_zero]; rfl) rfl ?hw92 (fun w1 => ?hy92) ?hn92; (case hw92 => rfl); (case hy92 => (go_simp; (try with_reducible rfl))); (try simp only [Act.put, List.setIfInBounds_toArray, List.set_cons_zero, List.set_cons_succ]))
          (refine TG.allocB (by simp only [List.getElem?_toArray, List.getElem?_cons_succ, List.getElem?_cons_zero]; rfl) rfl ?hw93 rfl rfl alRk (fun p7 hp7 _ => ?hn93); (case hw93 => rfl); (try simp only [Act.put, List.setIfInBounds_toArray, List.set_cons_zero, List.set_cons_succ]))
          (refine TG.storeB (d := ?d94) (T := ?T94) (y := ?y94) (p := ?p94) (b := ?b94) (v := ?v94) (by simp only [List.getElem?_toArray, List.getElem?_cons_succ, List.getElem?_cons_zero]; rfl) rfl ?hw94 ?hd94 ?hop94 ?hev94 ?hx94 ?hb94 ?htag94 (fun w1 hb1 => ?hy94) ?hn94; (case hw94 => rfl); (case hd94 => rfl); (case hop94 => rfl); (case hev94 => (simp only [Act.eval, Array.getD_eq_getD_getElem?, List.getElem?_toArray, List.getElem?_cons_succ, List.getElem?_cons_zero, Option.getD_some]; (try rfl))); (case hx94 => (simp only [Act.eval, Array.getD_eq_getD_getElem?, List.getElem?_toArray, List.getElem?_cons_succ, List.getElem?_cons_zero, Option.getD_some]; (try rfl))); (case hb94 => first | exact Bx.set_same _ _ _ | (simp only [Bx.set_same]; rfl)); (case htag94 => rfl); (case hy94 => (go_simp; (try with_reducible rfl))); (try simp only [Act.put, List.setIfInBounds_toArray, List.set_cons_zero, List.set_cons_succ]))
          (refine TG.v0 (v := ?v95) (by simp only [List.getElem?_toArray, List.getElem?_cons_succ, List.getElem?_cons_zero]; rfl) rfl ?hw95 (fun w1 => ?hy95) ?hn95; (case hw95 => rfl); (case hy95 => (go_simp; (try with_reducible rfl))); (try simp only [Act.put, List.setIfInBounds_toArray, List.set_cons_zero, List.set_cons_succ]))
          refine TG.nil (fun w3 ⟨TR, hr⟩ => ?_)
          have kp7 := hr.box p7 _ (by first | exact Bx.set_same _ _ _ | (simp only [Bx.set_same]; rfl)); dsimp only [Value.cells] at kp7; obtain ⟨gp7, nTp7, kp7⟩ := kp7
          clear gK
          have HB3 := Lib.hid (And.intro hr.k.2 (And.intro hr.lt (BB.rt (fun i hi => (HT.out i hi).1) hmw hr hr.k.2)))
          have hmw3 := HB3.out.2.2.m
          have HT3 := Lib.hid (RT.low (fun i hi => (HT.out i hi).1) hmw hr)
          have HY := Lib.hid (And.intro hy hyi)
          clear hr hB hmw HT hy hyi
          go_upto_region 17 with fail
          have Lkp7 := lt_size kp7
          refine wp_gpass0 (T0 := TR) (K := BBL h p (C.eraseP (fun x => x.id == id)) D) (κ := fun i => [0, 0, 6, 0, 0, 0, 3, 4, 0].getD i 0) (υ := fun i => [[], [], [], [], [], [], [], [], []].getD i []) [0, 1, 2, 3, 4, 5, 6, 7, 8] (by kernel_rfl) (by kernel_rfl) (goodBB h p (C.eraseP (fun x => x.id == id)) D).cl (HB3.out.1) (fun i hi => (HT3.out i hi).2) ?_
          have gK := goodBB h p (C.eraseP (fun x => x.id == id)) D
          (refine TG.v0 (v := ?v96) (by simp only [List.getElem?_toArray, List.getElem?_cons_succ, List.getElem?_cons_zero]; rfl) rfl ?hw96 (fun w1 => ?hy96) ?hn96; (case hw96 => rfl); (case hy96 => (go_simp; (try with_reducible rfl))); (try simp only [Act.put, List.setIfInBounds_toArray, List.set_cons_zero, List.set_cons_succ]))
          (refine TG.v0 (v := ?v97) (by simp only [List.getElem?_toArray, List.getElem?_cons_succ, List.getElem?_cons_zero]; rfl) rfl ?hw97 (fun w1 => ?hy97) ?hn97; (case hw97 => rfl); (case hy97 => (go_simp; (try with_reducible rfl))); (try simp only [Act.put, List.setIfInBounds_toArray, List.set_cons_zero, List.set_cons_succ]))
          (refine TG.callK (f := ?f98) (args := ?r98) (fun v T w => ∃ (j : Nat) (z : Nd), (D[j]? = some z ∧ z.id = id ∧ v = .tuple #[.agg (rkc z.r), .int .i64 0]) ∧ BBL h p (C.eraseP (fun x => x.id == id)) (D.eraseIdx j) T w) (fun v => Good.ex fun j => Good.ex fun z => (Good.pure (D[j]? = some z ∧ z.id = id ∧ v = .tuple #[.agg (rkc z.r), .int .i64 0])).and (goodBB h p (C.eraseP (fun x => x.id == id)) (D.eraseIdx j))) (by simp only [List.getElem?_toArray, List.getElem?_cons_succ, List.getElem?_cons_zero]; rfl) rfl ?hw98 (fun w1 => ?hy98) (fun T wq kq ltq hSq ub => ?hsp98) ?hn98; (case hw98 => rfl); (case hy98 => (go_simp; (first | with_reducible rfl | (constructor <;> with_reducible rfl)))); (case hsp98 => (have kp7q := hSq.at kp7 (by intro hT; first | exact hT | exact absurd hT (by assumption) | (simp only at hT; omega)); exact (BBL.dropR kq id (by have := HP.out.lenD; omega) (by obtain ⟨y, h1, h2⟩ := HID.out; exact ⟨y, HP.out.perm.mem_iff.2 h1, h2⟩)).mono (fun e w' hh => by obtain ⟨v, q1, q2, j, z, q3, q4, q5, q6⟩ := hh; exact ⟨v, q1, q2, j, z, ⟨q3, q4, q5⟩, q6⟩))); rintro v98 ⟨wI, TI, hI⟩; replace gK := (fun v => Good.ex fun j => Good.ex fun z => (Good.pure (D[j]? = some z ∧ z.id = id ∧ v = .tuple #[.agg (rkc z.r), .int .i64 0])).and (goodBB h p (C.eraseP (fun x => x.id == id)) (D.eraseIdx j))) v98; obtain ⟨j0, z, ⟨hz, hzi, rfl⟩, _⟩ := hI.k; (try clear hI TI wI); (try simp only [Act.put, List.setIfInBounds_toArray, List.set_cons_zero, List.set_cons_succ]))
          (refine TG.v0 (v := ?v99) (by simp only [List.getElem?_toArray, List.getElem?_cons_succ, List.getElem?_cons_zero]; rfl) rfl ?hw99 (fun w1 => ?hy99) ?hn99; (case hw99 => rfl); (case hy99 => (go_simp; (try with_reducible rfl))); (try simp only [Act.put, List.setIfInBounds_toArray, List.set_cons_zero, List.set_cons_succ]))
          (refine TG.v0 (v := ?v100) (by simp only [List.getElem?_toArray, List.getElem?_cons_succ, List.getElem?_cons_zero]; rfl) rfl ?hw100 (fun w1 => ?hy100) ?hn100; (case hw100 => rfl); (case hy100 => (go_simp; (try with_reducible rfl))); (try simp only [Act.put, List.setIfInBounds_toArray, List.set_cons_zero, List.set_cons_succ]))
          (refine TG.v0 (v := ?v101) (by simp only [List.getElem?_toArray, List.getElem?_cons_succ, List.getElem?_cons_zero]; rfl) rfl ?hw101 (fun w1 => ?hy101) ?hn101; (case hw101 => rfl); (case hy101 => (go_simp; (try with_reducible rfl))); (try simp only [Act.put, List.setIfInBounds_toArray, List.set_cons_zero, List.set_cons_succ]))
          (refine TG.allocB (by simp only [List.getElem?_toArray, List.getElem?_cons_succ, List.getElem?_cons_zero]; rfl) rfl ?hw102 rfl rfl alRk (fun p9 hp9 _ => ?hn102); (case hw102 => rfl); (try simp only [Act.put, List.setIfInBounds_toArray, List.set_cons_zero, List.set_cons_succ]))
          (refine TG.storeB (d := ?d103) (T := ?T103) (y := ?y103) (p := ?p103) (b := ?b103) (v := ?v103) (by simp only [List.getElem?_toArray, List.getElem?_cons_succ, List.getElem?_cons_zero]; rfl) rfl ?hw103 ?hd103 ?hop103 ?hev103 ?hx103 ?hb103 ?htag103 (fun w1 hb1 => ?hy103) ?hn103; (case hw103 => rfl); (case hd103 => rfl); (case hop103 => rfl); (case hev103 => (simp only [Act.eval, Array.getD_eq_getD_getElem?, List.getElem?_toArray, List.getElem?_cons_succ, List.getElem?_cons_zero, Option.getD_some]; (try rfl))); (case hx103 => (simp only [Act.eval, Array.getD_eq_getD_getElem?, List.getElem?_toArray, List.getElem?_cons_succ, List.getElem?_cons_zero, Option.getD_some]; (try rfl))); (case hb103 => first | exact Bx.set_same _ _ _ | (simp only [Bx.set_same]; rfl)); (case htag103 => rfl); (case hy103 => (go_simp; (try with_reducible rfl))); (try simp only [Act.put, List.setIfInBounds_toArray, List.set_cons_zero, List.set_cons_succ]))
          (refine TG.v0 (v := ?v104) (by simp only [List.getElem?_toArray, List.getElem?_cons_succ, List.getElem?_cons_zero]; rfl) rfl ?hw104 (fun w1 => ?hy104) ?hn104; (case hw104 => rfl); (case hy104 => (go_simp; (try with_reducible rfl))); (try simp only [Act.put, List.setIfInBounds_toArray, List.set_cons_zero, List.set_cons_succ]))
          refine TG.nil (fun w4 ⟨TR, hr⟩ => ?_)
          have kp7 := hr.mod.at kp7 (by intro hT; first | exact hT | exact absurd hT (by assumption) | (simp only at hT; omega))
          have kp9 := hr.box p9 _ (by first | exact Bx.set_same _ _ _ | (simp only [Bx.set_same]; rfl)); dsimp only [Value.cells] at kp9; obtain ⟨gp9, nTp9, kp9⟩ := kp9
          clear gK
          have hzy : z = y := same_id HP.out.bb.ids (HP.out.perm.mem_iff.1 (List.mem_of_getElem? hz)) HY.out.1 (by rw [hzi, HY.out.2])
          subst hzy
          obtain ⟨j1, z1, ⟨hz1, hzi1, _⟩, hB1⟩ := hr.k
          have HN0 := Lib.hid (PI.drop HP.out hz1 hzi1 (BB.rt (fun i hi => (HT3.out i hi).1) hmw3 hr hB1))
          clear hr hz hzi hz1 hzi1 hB1 hmw3 HT3 HB3
          go_upto_region 18 with fail
          have Lkp7 := lt_size kp7
          have Lkp9 := lt_size kp9
          refine wp_pass0 (C := fun _ _ _ => False) (κ := fun i => [1, 1, 0, 0, 0, 0, 0, 0].getD i 0) [0, 1, 2, 3, 4, 5, 6, 7] (by kernel_rfl) (by kernel_rfl) (fun _ _ d _ _ h => by cases d <;> exact h) ?_
          (refine TD.load (v := ?v105) (p := ?p105) (Mod.refl _ _) (by simp only [List.getElem?_toArray, List.getElem?_cons_succ, List.getElem?_cons_zero]; rfl) rfl ?hw105 rfl ?hx105 (fun wq hSq => ?hy105) ?hn105; (case hw105 => rfl); (case hx105 => (simp only [Act.eval, Array.getD_eq_getD_getElem?, List.getElem?_toArray, List.getElem?_cons_succ, List.getElem?_cons_zero, Option.getD_some]; (try rfl))); (case hy105 => (have kp7q := hSq.at kp7 (fun h => h); have kp9q := hSq.at kp9 (fun h => h); go_simp; (try with_reducible rfl))); (try simp only [Act.put, List.setIfInBounds_toArray, List.set_cons_zero, List.set_cons_succ]))
          (refine TD.load (v := ?v106) (p := ?p106) (Mod.refl _ _) (by simp only [List.getElem?_toArray, List.getElem?_cons_succ, List.getElem?_cons_zero]; rfl) rfl ?hw106 rfl ?hx106 (fun wq hSq => ?hy106) ?hn106; (case hw106 => rfl); (case hx106 => (simp only [Act.eval, Array.getD_eq_getD_getElem?, List.getElem?_toArray, List.getElem?_cons_succ, List.getElem?_cons_zero, Option.getD_some]; (try rfl))); (case hy106 => (have kp7q := hSq.at kp7 (fun h => h); have kp9q := hSq.at kp9 (fun h => h); go_simp; (try with_reducible rfl))); (try simp only [Act.put, List.setIfInBounds_toArray, List.set_cons_zero, List.set_cons_succ]))
          (refine TD.val0 (v := ?v107) (by simp only [List.getElem?_toArray, List.getElem?_cons_succ, List.getElem?_cons_zero]; rfl) rfl ?hw107 (fun w1 => ?hy107) ?hn107; (case hw107 => rfl); (case hy107 => (simp only [execOp, Act.eval, Array.getD_eq_getD_getElem?, List.getElem?_toArray, List.getElem?_cons_succ, List.getElem?_cons_zero, Option.getD_some, rkc_ext]; go_simp; (try with_reducible rfl))); (try simp only [Act.put, List.setIfInBounds_toArray, List.set_cons_zero, List.set_cons_succ]))
          (refine TD.val0 (v := ?v108) (by simp only [List.getElem?_toArray, List.getElem?_cons_succ, List.getElem?_cons_zero]; rfl) rfl ?hw108 (fun w1 => ?hy108) ?hn108; (case hw108 => rfl); (case hy108 => (go_simp; (try with_reducible rfl))); (try simp only [Act.put, List.setIfInBounds_toArray, List.set_cons_zero, List.set_cons_succ]))
          (refine TD.val0 (v := ?v109) (by simp only [List.getElem?_toArray, List.getElem?_cons_succ, List.getElem?_cons_zero]; rfl) rfl ?hw109 (fun w1 => ?hy109) ?hn109; (case hw109 => rfl); (case hy109 => (go_simp; (try with_reducible rfl))); (try simp only [Act.put, List.setIfInBounds_toArray, List.set_cons_zero, List.set_cons_succ]))
          (refine TD.val0 (v := ?v110) (by simp only [List.getElem?_toArray, List.getElem?_cons_succ, List.getElem?_cons_zero]; rfl) rfl ?hw110 (fun w1 => ?hy110) ?hn110; (case hw110 => rfl); (case hy110 => (go_simp; (try with_reducible rfl))); (try simp only [Act.put, List.setIfInBounds_toArray, List.set_cons_zero, List.set_cons_succ]))
          (refine TD.val0 (v := ?v111) (by simp only [List.getElem?_toArray, List.getElem?_cons_succ, List.getElem?_cons_zero]; rfl) rfl ?hw111 (fun w1 => ?hy111) ?hn111; (case hw111 => rfl); (case hy111 => (go_simp; (try with_reducible rfl))); (try simp only [Act.put, List.setIfInBounds_toArray, List.set_cons_zero, List.set_cons_succ]))
          (refine TD.val0 (v := ?v112) (by simp only [List.getElem?_toArray, List.getElem?_cons_succ, List.getElem?_cons_zero]; rfl) rfl ?hw112 (fun w1 => ?hy112) ?hn112; (case hw112 => rfl); (case hy112 => (go_simp; (try with_reducible rfl))); (try simp only [Act.put, List.setIfInBounds_toArray, List.set_cons_zero, List.set_cons_succ]))
          refine TD.nil (fun w5 hr => ?_)
          have kp7 := hr.mod.at kp7 (fun h => h)
          have kp9 := hr.mod.at kp9 (fun h => h)
          have HN := Lib.hid (show PI w h p (i + 1) _ _ _ from ⟨HN0.out.bb.mod0 hr.mod, HN0.out.perm, HN0.out.srt, HN0.out.len⟩)
          clear hr HN0 kp7 kp9 HP kl e1 e2 e3 d1
          go_wp2_with fail
          go_at_call 18
          refine (HN.out.bb.alike HN.out.perm HN.out.srt (by have := HN.out.len; omega)).mono ?_
          rintro e w6 ⟨rfl, mq⟩
          have HF := Lib.hid (And.intro (HN.out.bb.mod0 mq) (And.intro HN.out.perm (And.intro HN.out.srt HN.out.len)))
          clear mq HN
          go_wp2_with fail
          go_roundw
          case rel => exact ⟨i + 1, _, _, by omega, by go_num, Lib.hid ⟨HF.out.1, HF.out.2.1, HF.out.2.2.1, HF.out.2.2.2⟩⟩
          case measure => simp [intOf]; omega
        · have HID : Hid (∀ y ∈ C, y.id ≠ id) := Lib.hid (fun y hy e => hid ⟨y, hy, e⟩)
          clear hid
          go_upto_region 16 with fail
          refine wp_pass0 (C := fun _ _ v => v = .tuple #[.agg (rkc rk0), .int .i64 11]) (κ := fun i => [0, 0, 2, 0, 0, 0, 3, 4, 0].getD i 0) [0, 1, 2, 3, 4, 5, 6, 7, 8] (by kernel_rfl) (by kernel_rfl) (fun _ _ d _ _ h => by cases d <;> exact h) ?_
          (refine TD.val0 (v := ?v113) (by simp only [List.getElem?_toArray, List.getElem?_cons_succ, List.getElem?_cons_zero]; rfl) rfl ?hw113 (fun w1 => ?hy113) ?hn113; (case hw113 => rfl); (case hy113 => (go_simp; (try with_reducible rfl))); (try simp only [Act.put, List.setIfInBounds_toArray, List.set_cons_zero, List.set_cons_succ]))
          (refine TD.val0 (v := ?v114) (by simp only [List.getElem?_toArray, List.getElem?_cons_succ, List.getElem?_cons_zero]; rfl) rfl ?hw114 (fun w1 => ?hy114) ?hn114; (case hw114 => rfl); (case hy114 => (go_simp; (try with_reducible rfl))); (try simp only [Act.put, List.setIfInBounds_toArray, List.set_cons_zero, List.set_cons_succ]))
          (refine TD.call (f := ?f115) (args := ?r115) (Mod.refl _ _) (by simp only [List.getElem?_toArray, List.getElem?_cons_succ, List.getElem?_cons_zero]; rfl) rfl ?hw115 (fun w1 => ?hy115) ?hsp115 ?hn115; (case hw115 => rfl); (case hy115 => (go_simp; (first | with_reducible rfl | (constructor <;> with_reducible rfl)))); (case hsp115 => (intro wq hSq; exact ((HP.out.bb.mod0 hSq).dropNH id HID.out).mono (fun e w' h => ⟨_, h.1, rfl, h.2⟩))); rintro _ rfl; (try simp only [Act.put, List.setIfInBounds_toArray, List.set_cons_zero, List.set_cons_succ]))
          (refine TD.val0 (v := ?v116) (by simp only [List.getElem?_toArray, List.getElem?_cons_succ, List.getElem?_cons_zero]; rfl) rfl ?hw116 (fun w1 => ?hy116) ?hn116; (case hw116 => rfl); (case hy116 => (go_simp; (try with_reducible rfl))); (try simp only [Act.put, List.setIfInBounds_toArray, List.set_cons_zero, List.set_cons_succ]))
          (refine TD.val0 (v := ?v117) (by simp only [List.getElem?_toArray, List.getElem?_cons_succ, List.getElem?_cons_zero]; rfl) rfl ?hw117 (fun w1 => ?hy117) ?hn117; (case hw117 => rfl); (case hy117 => (go_simp; (try with_reducible rfl))); (try simp only [Act.put, List.setIfInBounds_toArray, List.set_cons_zero, List.set_cons_succ]))
          (refine TD.val0 (v := ?v118) (by simp only [List.getElem?_toArray, List.getElem?_cons_succ, List.getElem?_cons_zero]; rfl) rfl ?hw118 (fun w1 => ?hy118) ?hn118; (case hw118 => rfl); (case hy118 => (go_simp; (try with_reducible rfl))); (try simp only [Act.put, List.setIfInBounds_toArray, List.set_cons_zero, List.set_cons_succ]))
          (refine TD.allocB (by simp only [List.getElem?_toArray, List.getElem?_cons_succ, List.getElem?_cons_zero]; rfl) rfl ?hw119 rfl rfl alRk (fun p7 hp7 => ?hn119); (case hw119 => rfl); (try simp only [Act.put, List.setIfInBounds_toArray, List.set_cons_zero, List.set_cons_succ]))
          (refine TD.storeB (d := ?d120) (T := ?T120) (y := ?y120) (p := ?p120) (b := ?b120) (v := ?v120) (by simp only [List.getElem?_toArray, List.getElem?_cons_succ, List.getElem?_cons_zero]; rfl) rfl ?hw120 ?hd120 ?hop120 ?hev120 ?hx120 ?hb120 ?htag120 (fun w1 hb1 => ?hy120) ?hn120; (case hw120 => rfl); (case hd120 => rfl); (case hop120 => rfl); (case hev120 => (simp only [Act.eval, Array.getD_eq_getD_getElem?, List.getElem?_toArray, List.getElem?_cons_succ, List.getElem?_cons_zero, Option.getD_some]; (try rfl))); (case hx120 => (simp only [Act.eval, Array.getD_eq_getD_getElem?, List.getElem?_toArray, List.getElem?_cons_succ, List.getElem?_cons_zero, Option.getD_some]; (try rfl))); (case hb120 => first | exact Bx.set_same _ _ _ | (simp only [Bx.set_same]; rfl)); (case hy120 => (go_simp; (try with_reducible rfl))); (try simp only [Act.put, List.setIfInBounds_toArray, List.set_cons_zero, List.set_cons_succ]))
          (refine TD.val0 (v := ?v121) (by simp only [List.getElem?_toArray, List.getElem?_cons_succ, List.getElem?_cons_zero]; rfl) rfl ?hw121 (fun w1 => ?hy121) ?hn121; (case hw121 => rfl); (case hy121 => (go_simp; (try with_reducible rfl))); (try simp only [Act.put, List.setIfInBounds_toArray, List.set_cons_zero, List.set_cons_succ]))
          refine TD.nil (fun w3 hr => ?_)
          have kp7 := hr.box p7 _ (by first | exact Bx.set_same _ _ _ | (simp only [Bx.set_same]; rfl)); dsimp only [Value.cells] at kp7; obtain ⟨gp7, kp7⟩ := kp7
          have q3 := hr.mod
          clear hr
          go_upto_region 17 with fail
          have Lkp7 := lt_size kp7
          refine wp_pass0 (C := fun _ _ v => v = .tuple #[.agg (rkc rk0), .int .i64 11]) (κ := fun i => [0, 0, 2, 0, 0, 0, 3, 4, 0].getD i 0) [0, 1, 2, 3, 4, 5, 6, 7, 8] (by kernel_rfl) (by kernel_rfl) (fun _ _ d _ _ h => by cases d <;> exact h) ?_
          (refine TD.val0 (v := ?v122) (by simp only [List.getElem?_toArray, List.getElem?_cons_succ, List.getElem?_cons_zero]; rfl) rfl ?hw122 (fun w1 => ?hy122) ?hn122; (case hw122 => rfl); (case hy122 => (go_simp; (try with_reducible rfl))); (try simp only [Act.put, List.setIfInBounds_toArray, List.set_cons_zero, List.set_cons_succ]))
          (refine TD.val0 (v := ?v123) (by simp only [List.getElem?_toArray, List.getElem?_cons_succ, List.getElem?_cons_zero]; rfl) rfl ?hw123 (fun w1 => ?hy123) ?hn123; (case hw123 => rfl); (case hy123 => (go_simp; (try with_reducible rfl))); (try simp only [Act.put, List.setIfInBounds_toArray, List.set_cons_zero, List.set_cons_succ]))
          (refine TD.call (f := ?f124) (args := ?r124) (Mod.refl _ _) (by simp only [List.getElem?_toArray, List.getElem?_cons_succ, List.getElem?_cons_zero]; rfl) rfl ?hw124 (fun w1 => ?hy124) ?hsp124 ?hn124; (case hw124 => rfl); (case hy124 => (go_simp; (first | with_reducible rfl | (constructor <;> with_reducible rfl)))); (case hsp124 => (intro wq hSq; have kp7q := hSq.at kp7 (fun h => h); exact ((HP.out.bb.mod0 (q3.then0 hSq)).dropNR id (by have := HP.out.lenD; omega) (fun y hy => HID.out y (HP.out.perm.mem_iff.1 hy))).mono (fun e w' h => ⟨_, h.1, rfl, h.2⟩))); rintro _ rfl; (try simp only [Act.put, List.setIfInBounds_toArray, List.set_cons_zero, List.set_cons_succ]))
          (refine TD.val0 (v := ?v125) (by simp only [List.getElem?_toArray, List.getElem?_cons_succ, List.getElem?_cons_zero]; rfl) rfl ?hw125 (fun w1 => ?hy125) ?hn125; (case hw125 => rfl); (case hy125 => (go_simp; (try with_reducible rfl))); (try simp only [Act.put, List.setIfInBounds_toArray, List.set_cons_zero, List.set_cons_succ]))
          (refine TD.val0 (v := ?v126) (by simp only [List.getElem?_toArray, List.getElem?_cons_succ, List.getElem?_cons_zero]; rfl) rfl ?hw126 (fun w1 => ?hy126) ?hn126; (case hw126 => rfl); (case hy126 => (go_simp; (try with_reducible rfl))); (try simp only [Act.put, List.setIfInBounds_toArray, List.set_cons_zero, List.set_cons_succ]))
          (refine TD.val0 (v := ?v127) (by simp only [List.getElem?_toArray, List.getElem?_cons_succ, List.getElem?_cons_zero]; rfl) rfl ?hw127 (fun w1 => ?hy127) ?hn127; (case hw127 => rfl); (case hy127 => (go_simp; (try with_reducible rfl))); (try simp only [Act.put, List.setIfInBounds_toArray, List.set_cons_zero, List.set_cons_succ]))
          (refine TD.allocB (by simp only [List.getElem?_toArray, List.getElem?_cons_succ, List.getElem?_cons_zero]; rfl) rfl ?hw128 rfl rfl alRk (fun p9 hp9 => ?hn128); (case hw128 => rfl); (try simp only [Act.put, List.setIfInBounds_toArray, List.set_cons_zero, List.set_cons_succ]))
          (refine TD.storeB (d := ?d129) (T := ?T129) (y := ?y129) (p := ?p129) (b := ?b129) (v := ?v129) (by simp only [List.getElem?_toArray, List.getElem?_cons_succ, List.getElem?_cons_zero]; rfl) rfl ?hw129 ?hd129 ?hop129 ?hev129 ?hx129 ?hb129 ?htag129 (fun w1 hb1 => ?hy129) ?hn129; (case hw129 => rfl); (case hd129 => rfl); (case hop129 => rfl); (case hev129 => (simp only [Act.eval, Array.getD_eq_getD_getElem?, List.getElem?_toArray, List.getElem?_cons_succ, List.getElem?_cons_zero, Option.getD_some]; (try rfl))); (case hx129 => (simp only [Act.eval, Array.getD_eq_getD_getElem?, List.getElem?_toArray, List.getElem?_cons_succ, List.getElem?_cons_zero, Option.getD_some]; (try rfl))); (case hb129 => first | exact Bx.set_same _ _ _ | (simp only [Bx.set_same]; rfl)); (case hy129 => (go_simp; (try with_reducible rfl))); (try simp only [Act.put, List.setIfInBounds_toArray, List.set_cons_zero, List.set_cons_succ]))
          (refine TD.val0 (v := ?v130) (by simp only [List.getElem?_toArray, List.getElem?_cons_succ, List.getElem?_cons_zero]; rfl) rfl ?hw130 (fun w1 => ?hy130) ?hn130; (case hw130 => rfl); (case hy130 => (go_simp; (try with_reducible rfl))); (try simp only [Act.put, List.setIfInBounds_toArray, List.set_cons_zero, List.set_cons_succ]))
          refine TD.nil (fun w4 hr => ?_)
          have kp7 := hr.mod.at kp7 (fun h => h)
          have kp9 := hr.box p9 _ (by first | exact Bx.set_same _ _ _ | (simp only [Bx.set_same]; rfl)); dsimp only [Value.cells] at kp9; obtain ⟨gp9, kp9⟩ := kp9
          have q4 := q3.then0 hr.mod
          clear hr
          go_upto_region 18 with fail
          have Lkp7 := lt_size kp7
          have Lkp9 := lt_size kp9
          refine wp_pass0 (C := fun _ _ _ => False) (κ := fun i => [1, 1, 0, 0, 0, 0, 0, 0].getD i 0) [0, 1, 2, 3, 4, 5, 6, 7] (by kernel_rfl) (by kernel_rfl) (fun _ _ d _ _ h => by cases d <;> exact h) ?_
          (refine TD.load (v := ?v131) (p := ?p131) (Mod.refl _ _) (by simp only [List.getElem?_toArray, List.getElem?_cons_succ, List.getElem?_cons_zero]; rfl) rfl ?hw131 rfl ?hx131 (fun wq hSq => ?hy131) ?hn131; (case hw131 => rfl); (case hx131 => (simp only [Act.eval, Array.getD_eq_getD_getElem?, List.getElem?_toArray, List.getElem?_cons_succ, List.getElem?_cons_zero, Option.getD_some]; (try rfl))); (case hy131 => (have kp7q := hSq.at kp7 (fun h => h); have kp9q := hSq.at kp9 (fun h => h); go_simp; (try with_reducible rfl))); (try simp only [Act.put, List.setIfInBounds_toArray, List.set_cons_zero, List.set_cons_succ]))
          (refine TD.load (v := ?v132) (p := ?p132) (Mod.refl _ _) (by simp only [List.getElem?_toArray, List.getElem?_cons_succ, List.getElem?_cons_zero]; rfl) rfl ?hw132 rfl ?hx132 (fun wq hSq => ?hy132) ?hn132; (case hw132 => rfl); (case hx132 => (simp only [Act.eval, Array.getD_eq_getD_getElem?, List.getElem?_toArray, List.getElem?_cons_succ, List.getElem?_cons_zero, Option.getD_some]; (try rfl))); (case hy132 => (have kp7q := hSq.at kp7 (fun h => h); have kp9q := hSq.at kp9 (fun h => h); go_simp; (try with_reducible rfl))); (try simp only [Act.put, List.setIfInBounds_toArray, List.set_cons_zero, List.set_cons_succ]))
          (refine TD.val0 (v := ?v133) (by simp only [List.getElem?_toArray, List.getElem?_cons_succ, List.getElem?_cons_zero]; rfl) rfl ?hw133 (fun w1 => ?hy133) ?hn133; (case hw133 => rfl); (case hy133 => (simp only [execOp, Act.eval, Array.getD_eq_getD_getElem?, List.getElem?_toArray, List.getElem?_cons_succ, List.getElem?_cons_zero, Option.getD_some, rkc_ext]; go_simp; (try with_reducible rfl))); (try simp only [Act.put, List.setIfInBounds_toArray, List.set_cons_zero, List.set_cons_succ]))
          (refine TD.val0 (v := ?v134) (by simp only [List.getElem?_toArray, List.getElem?_cons_succ, List.getElem?_cons_zero]; rfl) rfl ?hw134 (fun w1 => ?hy134) ?hn134; (case hw134 => rfl); (case hy134 => (go_simp; (try with_reducible rfl))); (try simp only [Act.put, List.setIfInBounds_toArray, List.set_cons_zero, List.set_cons_succ]))
          (refine TD.val0 (v := ?v135) (by simp only [List.getElem?_toArray, List.getElem?_cons_succ, List.getElem?_cons_zero]; rfl) rfl ?hw135 (fun w1 => ?hy135) ?hn135; (case hw135 => rfl); (case hy135 => (go_simp; (try with_reducible rfl))); (try simp only [Act.put, List.setIfInBounds_toArray, List.set_cons_zero, List.set_cons_succ]))
          (refine TD.val0 (v := ?v136) (by simp only [List.getElem?_toArray, List.getElem?_cons_succ, List.getElem?_cons_zero]; rfl) rfl ?hw136 (fun w1 => ?hy136) ?hn136; (case hw136 => rfl); (case hy136 => (go_simp; (try with_reducible rfl))); (try simp only [Act.put, List.setIfInBounds_toArray, List.set_cons_zero, List.set_cons_succ]))
          (refine TD.val0 (v := ?v137) (by simp only [List.getElem?_toArray, List.getElem?_cons_succ, List.getElem?_cons_zero]; rfl) rfl ?hw137 (fun w1 => ?hy137) ?hn137; (case hw137 => rfl); (case hy137 => (go_simp; (try with_reducible rfl))); (try simp only [Act.put, List.setIfInBounds_toArray, List.set_cons_zero, List.set_cons_succ]))
          (refine TD.val0 (v := ?v138) (by simp only [List.getElem?_toArray, List.getElem?_cons_succ, List.getElem?_cons_zero]; rfl) rfl ?hw138 (fun w1 => ?hy138) ?hn138; (case hw138 => rfl); (case hy138 => (go_simp; (try with_reducible rfl))); (try simp only [Act.put, List.setIfInBounds_toArray, List.set_cons_zero, List.set_cons_succ]))
          refine TD.nil (fun w5 hr => ?_)
          have kp7 := hr.mod.at kp7 (fun h => h)
          have kp9 := hr.mod.at kp9 (fun h => h)
          have HN := Lib.hid (HP.out.up (q4.then0 hr.mod))
          clear hr q3 q4 kp7 kp9 HP kl e1 e2 e3 d1
          go_wp2_with fail
          go_at_call 18
          refine (HN.out.bb.alike HN.out.perm HN.out.srt (by have := HN.out.len; omega)).mono ?_
          rintro e w6 ⟨rfl, mq⟩
          have HF := Lib.hid (And.intro (HN.out.bb.mod0 mq) (And.intro HN.out.perm (And.intro HN.out.srt HN.out.len)))
          clear mq HN
          go_wp2_with fail
          go_roundw
          case rel => exact ⟨i + 1, _, _, by omega, by go_num, Lib.hid ⟨HF.out.1, HF.out.2.1, HF.out.2.2.1, HF.out.2.2.2⟩⟩
          case measure => simp [intOf]; omega
      · have hid0 := HP.out.bb.rbot (by have := HP.out.lenD; omega)
        generalize enOf D.getLast? = t at hid0
        go_wp2_with fail
        go_at_call 13
        refine hid0.mono ?_
        rintro e w2 ⟨he0, mq⟩
        obtain rfl : e = .returned (.tuple #[.agg (rkc t.r), .int .i64 t.id.toInt, .bool t.ok]) := he0
        replace kl := mq.at0 kl
        have HP2 : Hid (PI w h p i C D w2) := Lib.hid ⟨HP.out.bb.mod0 mq, HP.out.perm, HP.out.srt, HP.out.len⟩
        clear mq HP hid0
        have HP := HP2
        clear HP2
        generalize t.id = id at *
        by_cases hid : ∃ y ∈ C, y.id = id
        · obtain ⟨T, hB, hT, hmw⟩ := HP.out.bb
          have HID := Lib.hid hid
          have HT := Lib.hid hT
          clear hid hT
          go_upto_region 16 with fail
          refine wp_gpass0 (T0 := T) (K := BBL h p C D) (κ := fun i => [0, 0, 6, 0, 0, 0, 3, 4, 0].getD i 0) (υ := fun i => [[], [], [], [], [], [], [], [], []].getD i []) [0, 1, 2, 3, 4, 5, 6, 7, 8] (by kernel_rfl) (by kernel_rfl) (goodBB h p C D).cl (hB) (fun i hi => (HT.out i hi).2) ?_
          have gK := goodBB h p C D
          (refine TG.v0 (v := ?v139) (by simp only [List.getElem?_toArray, List.getElem?_cons_succ, List.getElem?_cons_zero]; rfl) rfl ?hw139 (fun w1 => ?hy139) ?hn139; (case hw139 => rfl); (case hy139 => (go_simp; (try with_reducible rfl))); (try simp only [Act.put, List.setIfInBounds_toArray, List.set_cons_zero, List.set_cons_succ]))
          (refine TG.v0 (v := ?v140) (by simp only [List.getElem?_toArray, List.getElem?_cons_succ, List.getElem?_cons_zero]; rfl) rfl ?hw140 (fun w1 => ?hy140) ?hn140; (case hw140 => rfl); (case hy140 => (go_simp; (try with_reducible rfl))); (try simp only [Act.put, List.setIfInBounds_toArray, List.set_cons_zero, List.set_cons_succ]))
          (refine TG.callK (f := ?f141) (args := ?r141) (fun v T w => (∃ y ∈ C, y.id = id ∧ v = .tuple #[.agg (rkc y.r), .int .i64 0]) ∧ BBL h p (C.eraseP (fun x => x.id == id)) D T w) (fun v => (Good.pure (∃ y ∈ C, y.id = id ∧ v = .tuple #[.agg (rkc y.r), .int .i64 0])).and (goodBB h p (C.eraseP (fun x => x.id == id)) D)) (by simp only [List.getElem?_toArray, List.getElem?_cons_succ, List.getElem?_cons_zero]; rfl) rfl ?hw141 (fun w1 => ?hy141) (fun T wq kq ltq hSq ub => ?hsp141) ?hn141; (case hw141 => rfl); (case hy141 => (go_simp; (first | with_reducible rfl | (constructor <;> with_reducible rfl)))); (case hsp141 => (exact BBL.dropH kq id (by have := HP.out.len; omega) HID.out)); rintro v141 ⟨wI, TI, hI⟩; replace gK := (fun v => (Good.pure (∃ y ∈ C, y.id = id ∧ v = .tuple #[.agg (rkc y.r), .int .i64 0])).and (goodBB h p (C.eraseP (fun x => x.id == id)) D)) v141; obtain ⟨⟨y, hy, hyi, rfl⟩, _⟩ := hI.k; (try clear hI TI wI); (try simp only [Act.put, List.setIfInBounds_toArray, List.set_cons_zero, List.set_cons_succ]))
          (refine TG.v0 (v := ?v142) (by simp only [List.getElem?_toArray, List.getElem?_cons_succ, List.getElem?_cons_zero]; rfl) rfl ?hw142 (fun w1 => ?hy142) ?hn142; (case hw142 => rfl); (case hy142 => (go_simp; (try with_reducible rfl))); (try simp only [Act.put, List.setIfInBounds_toArray, List.set_cons_zero, List.set_cons_succ]))
          (refine TG.v0 (v := ?v143) (by simp only [List.getElem?_toArray, List.getElem?_cons_succ, List.getElem?_cons_zero]; rfl) rfl ?hw143 (fun w1 => ?hy143) ?hn143; (case hw143 => rfl); (case hy143 => (go_simp; (try with_reducible rfl))); (try simp only [Act.put, List.setIfInBounds_toArray, List.set_cons_zero, List.set_cons_succ]))
          (refine TG.v0 (v := ?v144) (by simp only [List.getElem?_toArray, List.getElem?_cons_succ, List.getElem?_cons_zero]; rfl) rfl ?hw144 (fun w1 => ?hy144) ?hn144; (case hw144 => rfl); (case hy144 => (go_simp; (try with_reducible rfl))); (try simp only [Act.put, List.setIfInBounds_toArray, List.set_cons_zero, List.set_cons_succ]))
          (refine TG.allocB (by simp only [List.getElem?_toArray, List.getElem?_cons_succ, List.getElem?_cons_zero]; rfl) rfl ?hw145 rfl rfl alRk (fun p7 hp7 _ => ?hn145); (case hw145 => rfl); (try simp only [Act.put, List.setIfInBounds_toArray, List.set_cons_zero, List.set_cons_succ]))
          (refine TG.storeB (d := ?d146) (T := ?T146) (y := ?y146) (p := ?p146) (b := ?b146) (v := ?v146) (by simp only [List.getElem?_toArray, List.getElem?_cons_succ, List.getElem?_cons_zero]; rfl) rfl ?hw146 ?hd146 ?hop146 ?hev146 ?hx146 ?hb146 ?htag146 (fun w1 hb1 => ?hy146) ?hn146; (case hw146 => rfl); (case hd146 => rfl); (case hop146 => rfl); (case hev146 => (simp only [Act.eval, Array.getD_eq_getD_getElem?, List.getElem?_toArray, List.getElem?_cons_succ, List.getElem?_cons_zero, Option.getD_some]; (try rfl))); (case hx146 => (simp only [Act.eval, Array.getD_eq_getD_getElem?, List.getElem?_toArray, List.getElem?_cons_succ, List.getElem?_cons_zero, Option.getD_some]; (try rfl))); (case hb146 => first | exact Bx.set_same _ _ _ | (simp only [Bx.set_same]; rfl)); (case htag146 => rfl); (case hy146 => (go_simp; (try with_reducible rfl))); (try simp only [Act.put, List.setIfInBounds_toArray, List.set_cons_zero, List.set_cons_succ]))
          (refine TG.v0 (v := ?v147) (by simp only [List.getElem?_toArray, List.getElem?_cons_succ, List.getElem?_cons_zero]; rfl) rfl ?hw147 (fun w1 => ?hy147) ?hn147; (case hw147 => rfl); (case hy147 => (go_simp; (try with_reducible rfl))); (try simp only [Act.put, List.setIfInBounds_toArray, List.set_cons_zero, List.set_cons_succ]))
          refine TG.nil (fun w3 ⟨TR, hr⟩ => ?_)
          have kp7 := hr.box p7 _ (by first | exact Bx.set_same _ _ _ | (simp only [Bx.set_same]; rfl)); dsimp only [Value.cells] at kp7; obtain ⟨gp7, nTp7, kp7⟩ := kp7
          clear gK
          have HB3 := Lib.hid (And.intro hr.k.2 (And.intro hr.lt (BB.rt (fun i hi => (HT.out i hi).1) hmw hr hr.k.2)))
          have hmw3 := HB3.out.2.2.m
          have HT3 := Lib.hid (RT.low (fun i hi => (HT.out i hi).1) hmw hr)
          have HY := Lib.hid (And.intro hy hyi)
          clear hr hB hmw HT hy hyi
          go_upto_region 17 with fail
          have Lkp7 := lt_size kp7
          refine wp_gpass0 (T0 := TR) (K := BBL h p (C.eraseP (fun x => x.id == id)) D) (κ := fun i => [0, 0, 6, 0, 0, 0, 3, 4, 0].getD i 0) (υ := fun i => [[], [], [], [], [], [], [], [], []].getD i []) [0, 1, 2, 3, 4, 5, 6, 7, 8] (by kernel_rfl) (by kernel_rfl) (goodBB h p (C.eraseP (fun x => x.id == id)) D).cl (HB3.out.1) (fun i hi => (HT3.out i hi).2) ?_
          have gK := goodBB h p (C.eraseP (fun x => x.id == id)) D
          (refine TG.v0 (v := ?v148) (by simp only [List.getElem?_toArray, List.getElem?_cons_succ, List.getElem?_cons_zero]; rfl) rfl ?hw148 (fun w1 => ?hy148) ?hn148; (case hw148 => rfl); (case hy148 => (go_simp; (try with_reducible rfl))); (try simp only [Act.put, List.setIfInBounds_toArray, List.set_cons_zero, List.set_cons_succ]))
          (refine TG.v0 (v := ?v149) (by simp only [List.getElem?_toArray, List.getElem?_cons_succ, List.getElem?_cons_zero]; rfl) rfl ?hw149 (fun w1 => ?hy149) ?hn149; (case hw149 => rfl); (case hy149 => (go_simp; (try with_reducible rfl))); (try simp only [Act.put, List.setIfInBounds_toArray, List.set_cons_zero, List.set_cons_succ]))
          (refine TG.callK (f := ?f150) (args := ?r150) (fun v T w => ∃ (j : Nat) (z : Nd), (D[j]? = some z ∧ z.id = id ∧ v = .tuple #[.agg (rkc z.r), .int .i64 0]) ∧ BBL h p (C.eraseP (fun x => x.id == id)) (D.eraseIdx j) T w) (fun v => Good.ex fun j => Good.ex fun z => (Good.pure (D[j]? = some z ∧ z.id = id ∧ v = .tuple #[.agg (rkc z.r), .int .i64 0])).and (goodBB h p (C.eraseP (fun x => x.id == id)) (D.eraseIdx j))) (by simp only [List.getElem?_toArray, List.getElem?_cons_succ, List.getElem?_cons_zero]; rfl) rfl ?hw150 (fun w1 => ?hy150) (fun T wq kq ltq hSq ub => ?hsp150) ?hn150; (case hw150 => rfl); (case hy150 => (go_simp; (first | with_reducible rfl | (constructor <;> with_reducible rfl)))); (case hsp150 => (have kp7q := hSq.at kp7 (by intro hT; first | exact hT | exact absurd hT (by assumption) | (simp only at hT; omega)); exact (BBL.dropR kq id (by have := HP.out.lenD; omega) (by obtain ⟨y, h1, h2⟩ := HID.out; exact ⟨y, HP.out.perm.mem_iff.2 h1, h2⟩)).mono (fun e w' hh => by obtain ⟨v, q1, q2, j, z, q3, q4, q5, q6⟩ := hh; exact ⟨v, q1, q2, j, z, ⟨q3, q4, q5⟩, q6⟩))); rintro v150 ⟨wI, TI, hI⟩; replace gK := (fun v => Good.ex fun j => Good.ex fun z => (Good.pure (D[j]? = some z ∧ z.id = id ∧ v = .tuple #[.agg (rkc z.r), .int .i64 0])).and (goodBB h p (C.eraseP (fun x => x.id == id)) (D.eraseIdx j))) v150; obtain ⟨j0, z, ⟨hz, hzi, rfl⟩, _⟩ := hI.k; (try clear hI TI wI); (try simp only [Act.put, List.setIfInBounds_toArray, List.set_cons_zero, List.set_cons_succ]))
          (refine TG.v0 (v := ?v151) (by simp only [List.getElem?_toArray, List.getElem?_cons_succ, List.getElem?_cons_zero]; rfl) rfl ?hw151 (fun w1 => ?hy151) ?hn151; (case hw151 => rfl); (case hy151 => (go_simp; (try with_reducible rfl))); (try simp only [Act.put, List.setIfInBounds_toArray, List.set_cons_zero, List.set_cons_succ]))
          (refine TG.v0 (v := ?v152) (by simp only [List.getElem?_toArray, List.getElem?_cons_succ, List.getElem?_cons_zero]; rfl) rfl ?hw152 (fun w1 => ?hy152) ?hn152; (case hw152 => rfl); (case hy152 => (go_simp; (try with_reducible rfl))); (try simp only [Act.put, List.setIfInBounds_toArray, List.set_cons_zero, List.set_cons_succ]))
          (refine TG.v0 (v := ?v153) (by simp only [List.getElem?_toArray, List.getElem?_cons_succ, List.getElem?_cons_zero]; rfl) rfl ?hw153 (fun w1 => ?hy153) ?hn153; (case hw153 => rfl); (case hy153 => (go_simp; (try with_reducible rfl))); (try simp only [Act.put, List.setIfInBounds_toArray, List.set_cons_zero, List.set_cons_succ]))
          (refine TG.allocB (by simp only [List.getElem?_toArray, List.getElem?_cons_succ, List.getElem?_cons_zero]; rfl) rfl ?hw154 rfl rfl alRk (fun p9 hp9 _ => ?hn154); (case hw154 => rfl); (try simp only [Act.put, List.setIfInBounds_toArray, List.set_cons_zero, List.set_cons_succ]))
          (refine TG.storeB (d := ?d155) (T := ?T155) (y := ?y155) (p := ?p155) (b := ?b155) (v := ?v155) (by simp only [List.getElem?_toArray, List.getElem?_cons_succ, List.getElem?_cons_zero]; rfl) rfl ?hw155 ?hd155 ?hop155 ?hev155 ?hx155 ?hb155 ?htag155 (fun w1 hb1 => ?hy155) ?hn155; (case hw155 => rfl); (case hd155 => rfl); (case hop155 => rfl); (case hev155 => (simp only [Act.eval, Array.getD_eq_getD_getElem?, List.getElem?_toArray, List.getElem?_cons_succ, List.getElem?_cons_zero, Option.getD_some]; (try rfl))); (case hx155 => (simp only [Act.eval, Array.getD_eq_getD_getElem?, List.getElem?_toArray, List.getElem?_cons_succ, List.getElem?_cons_zero, Option.getD_some]; (try rfl))); (case hb155 => first | exact Bx.set_same _ _ _ | (simp only [Bx.set_same]; rfl)); (case htag155 => rfl); (case hy155 => (go_simp; (try with_reducible rfl))); (try simp only [Act.put, List.setIfInBounds_toArray, List.set_cons_zero, List.set_cons_succ]))
          (refine TG.v0 (v := ?v156) (by simp only [List.getElem?_toArray, List.getElem?_cons_succ, List.getElem?_cons_zero]; rfl) rfl ?hw156 (fun w1 => ?hy156) ?hn156; (case hw156 => rfl); (case hy156 => (go_simp; (try with_reducible rfl))); (try simp only [Act.put, List.setIfInBounds_toArray, List.set_cons_zero, List.set_cons_succ]))
          refine TG.nil (fun w4 ⟨TR, hr⟩ => ?_)
          have kp7 := hr.mod.at kp7 (by intro hT; first | exact hT | exact absurd hT (by assumption) | (simp only at hT; omega))
          have kp9 := hr.box p9 _ (by first | exact Bx.set_same _ _ _ | (simp only [Bx.set_same]; rfl)); dsimp only [Value.cells] at kp9; obtain ⟨gp9, nTp9, kp9⟩ := kp9
          clear gK
          have hzy : z = y := same_id HP.out.bb.ids (HP.out.perm.mem_iff.1 (List.mem_of_getElem? hz)) HY.out.1 (by rw [hzi, HY.out.2])
          subst hzy
          obtain ⟨j1, z1, ⟨hz1, hzi1, _⟩, hB1⟩ := hr.k
          have HN0 := Lib.hid (PI.drop HP.out hz1 hzi1 (BB.rt (fun i hi => (HT3.out i hi).1) hmw3 hr hB1))
          clear hr hz hzi hz1 hzi1 hB1 hmw3 HT3 HB3
          go_upto_region 18 with fail
          have Lkp7 := lt_size kp7
          have Lkp9 := lt_size kp9
          refine wp_pass0 (C := fun _ _ _ => False) (κ := fun i => [1, 1, 0, 0, 0, 0, 0, 0].getD i 0) [0, 1, 2, 3, 4, 5, 6, 7] (by kernel_rfl) (by kernel_rfl) (fun _ _ d _ _ h => by cases d <;> exact h) ?_
          (refine TD.load (v := ?v157) (p := ?p157) (Mod.refl _ _) (by simp only [List.getElem?_toArray, List.getElem?_cons_succ, List.getElem?_cons_zero]; rfl) rfl ?hw157 rfl ?hx157 (fun wq hSq => ?hy157) ?hn157; (case hw157 => rfl); (case hx157 => (simp only [Act.eval, Array.getD_eq_getD_getElem?, List.getElem?_toArray, List.getElem?_cons_succ, List.getElem?_cons_zero, Option.getD_some]; (try rfl))); (case hy157 => (have kp7q := hSq.at kp7 (fun h => h); have kp9q := hSq.at kp9 (fun h => h); go_simp; (try with_reducible rfl))); (try simp only [Act.put, List.setIfInBounds_toArray, List.set_cons_zero, List.set_cons_succ]))
          (refine TD.load (v := ?v158) (p := ?p158) (Mod.refl _ _) (by simp only [List.getElem?_toArray, List.getElem?_cons_succ, List.getElem?_cons_zero]; rfl) rfl ?hw158 rfl ?hx158 (fun wq hSq => ?hy158) ?hn158; (case hw158 => rfl); (case hx158 => (simp only [Act.eval, Array.getD_eq_getD_getElem?, List.getElem?_toArray, List.getElem?_cons_succ, List.getElem?_cons_zero, Option.getD_some]; (try rfl))); (case hy158 => (have kp7q := hSq.at kp7 (fun h => h); have kp9q := hSq.at kp9 (fun h => h); go_simp; (try with_reducible rfl))); (try simp only [Act.put, List.setIfInBounds_toArray, List.set_cons_zero, List.set_cons_succ]))
          (refine TD.val0 (v := ?v159) (by simp only [List.getElem?_toArray, List.getElem?_cons_succ, List.getElem?_cons_zero]; rfl) rfl ?hw159 (fun w1 => ?hy159) ?hn159; (case hw159 => rfl); (case hy159 => (simp only [execOp, Act.eval, Array.getD_eq_getD_getElem?, List.getElem?_toArray, List.getElem?_cons_succ, List.getElem?_cons_zero, Option.getD_some, rkc_ext]; go_simp; (try with_reducible rfl))); (try simp only [Act.put, List.setIfInBounds_toArray, List.set_cons_zero, List.set_cons_succ]))
          (refine TD.val0 (v := ?v160) (by simp only [List.getElem?_toArray, List.getElem?_cons_succ, List.getElem?_cons_zero]; rfl) rfl ?hw160 (fun w1 => ?hy160) ?hn160; (case hw160 => rfl); (case hy160 => (go_simp; (try with_reducible rfl))); (try simp only [Act.put, List.setIfInBounds_toArray, List.set_cons_zero, List.set_cons_succ]))
          (refine TD.val0 (v := ?v161) (by simp only [List.getElem?_toArray, List.getElem?_cons_succ, List.getElem?_cons_zero]; rfl) rfl ?hw161 (fun w1 => ?hy161) ?hn161; (case hw161 => rfl); (case hy161 => (go_simp; (try with_reducible rfl))); (try simp only [Act.put, List.setIfInBounds_toArray, List.set_cons_zero, List.set_cons_succ]))
          (refine TD.val0 (v := ?v162) (by simp only [List.getElem?_toArray, List.getElem?_cons_succ, List.getElem?_cons_zero]; rfl) rfl ?hw162 (fun w1 => ?hy162) ?hn162; (case hw162 => rfl); (case hy162 => (go_simp; (try with_reducible rfl))); (try simp only [Act.put, List.setIfInBounds_toArray, List.set_cons_zero, List.set_cons_succ]))
          (refine TD.val0 (v := ?v163) (by simp only [List.getElem?_toArray, List.getElem?_cons_succ, List.getElem?_cons_zero]; rfl) rfl ?hw163 (fun w1 => ?hy163) ?hn163; (case hw163 => rfl); (case hy163 => (go_simp; (try with_reducible rfl))); (try simp only [Act.put, List.setIfInBounds_toArray, List.set_cons_zero, List.set_cons_succ]))
          (refine TD.val0 (v := ?v164) (by simp only [List.getElem?_toArray, List.getElem?_cons_succ, List.getElem?_cons_zero]; rfl) rfl ?hw164 (fun w1 => ?hy164) ?hn164; (case hw164 => rfl); (case hy164 => (go_simp; (try with_reducible rfl))); (try simp only [Act.put, List.setIfInBounds_toArray, List.set_cons_zero, List.set_cons_succ]))
          refine TD.nil (fun w5 hr => ?_)
          have kp7 := hr.mod.at kp7 (fun h => h)
          have kp9 := hr.mod.at kp9 (fun h => h)
          have HN := Lib.hid (show PI w h p (i + 1) _ _ _ from ⟨HN0.out.bb.mod0 hr.mod, HN0.out.perm, HN0.out.srt, HN0.out.len⟩)
          clear hr HN0 kp7 kp9 HP kl e1 e2 e3 d1
          go_wp2_with fail
          go_at_call 18
          refine (HN.out.bb.alike HN.out.perm HN.out.srt (by have := HN.out.len; omega)).mono ?_
          rintro e w6 ⟨rfl, mq⟩
          have HF := Lib.hid (And.intro (HN.out.bb.mod0 mq) (And.intro HN.out.perm (And.intro HN.out.srt HN.out.len)))
          clear mq HN
          go_wp2_with fail
          go_roundw
          case rel => exact ⟨i + 1, _, _, by omega, by go_num, Lib.hid ⟨HF.out.1, HF.out.2.1, HF.out.2.2.1, HF.out.2.2.2⟩⟩
          case measure => simp [intOf]; omega
        · have HID : Hid (∀ y ∈ C, y.id ≠ id) := Lib.hid (fun y hy e => hid ⟨y, hy, e⟩)
          clear hid
          go_upto_region 16 with fail
          refine wp_pass0 (C := fun _ _ v => v = .tuple #[.agg (rkc rk0), .int .i64 11]) (κ := fun i => [0, 0, 2, 0, 0, 0, 3, 4, 0].getD i 0) [0, 1, 2, 3, 4, 5, 6, 7, 8] (by kernel_rfl) (by kernel_rfl) (fun _ _ d _ _ h => by cases d <;> exact h) ?_
          (refine TD.val0 (v := ?v165) (by simp only [List.getElem?_toArray, List.getElem?_cons_succ, List.getElem?_cons_zero]; rfl) rfl ?hw165 (fun w1 => ?hy165) ?hn165; (case hw165 => rfl); (case hy165 => (go_simp; (try with_reducible rfl))); (try simp only [Act.put, List.setIfInBounds_toArray, List.set_cons_zero, List.set_cons_succ]))
          (refine TD.val0 (v := ?v166) (by simp only [List.getElem?_toArray, List.getElem?_cons_succ, List.getElem?_cons_zero]; rfl) rfl ?hw166 (fun w1 => ?hy166) ?hn166; (case hw166 => rfl); (case hy166 => (go_simp; (try with_reducible rfl))); (try simp only [Act.put, List.setIfInBounds_toArray, List.set_cons_zero, List.set_cons_succ]))
          (refine TD.call (f := ?f167) (args := ?r167) (Mod.refl _ _) (by simp only [List.getElem?_toArray, List.getElem?_cons_succ, List.getElem?_cons_zero]; rfl) rfl ?hw167 (fun w1 => ?hy167) ?hsp167 ?hn167; (case hw167 => rfl); (case hy167 => (go_simp; (first | with_reducible rfl | (constructor <;> with_reducible rfl)))); (case hsp167 => (intro wq hSq; exact ((HP.out.bb.mod0 hSq).dropNH id HID.out).mono (fun e w' h => ⟨_, h.1, rfl, h.2⟩))); rintro _ rfl; (try simp only [Act.put, List.setIfInBounds_toArray, List.set_cons_zero, List.set_cons_succ]))
          (refine TD.val0 (v := ?v168) (by simp only [List.getElem?_toArray, List.getElem?_cons_succ, List.getElem?_cons_zero]; rfl) rfl ?hw168 (fun w1 => ?hy168) ?hn168; (case hw168 => rfl); (case hy168 => (go_simp; (try with_reducible rfl))); (try simp only [Act.put, List.setIfInBounds_toArray, List.set_cons_zero, List.set_cons_succ]))
          (refine TD.val0 (v := ?v169) (by simp only [List.getElem?_toArray, List.getElem?_cons_succ, List.getElem?_cons_zero]; rfl) rfl ?hw169 (fun w1 => ?hy169) ?hn169; (case hw169 => rfl); (case hy169 => (go_simp; (try with_reducible rfl))); (try simp only [Act.put, List.setIfInBounds_toArray, List.set_cons_zero, List.set_cons_succ]))
          (refine TD.val0 (v := ?v170) (by simp only [List.getElem?_toArray, List.getElem?_cons_succ, List.getElem?_cons_zero]; rfl) rfl ?hw170 (fun w1 => ?hy170) ?hn170; (case hw170 => rfl); (case hy170 => (go_simp; (try with_reducible rfl))); (try simp only [Act.put, List.setIfInBounds_toArray, List.set_cons_zero, List.set_cons_succ]))
          (refine TD.allocB (by simp only [List.getElem?_toArray, List.getElem?_cons_succ, List.getElem?_cons_zero]; rfl) rfl ?hw171 rfl rfl alRk (fun p7 hp7 => ?hn171); (case hw171 => rfl); (try simp only [Act.put, List.setIfInBounds_toArray, List.set_cons_zero, List.set_cons_succ]))
          (refine TD.storeB (d := ?d172) (T := ?T172) (y := ?y172) (p := ?p172) (b := ?b172) (v := ?v172) (by simp only [List.getElem?_toArray, List.getElem?_cons_succ, List.getElem?_cons_zero]; rfl) rfl ?hw172 ?hd172 ?hop172 ?hev172 ?hx172 ?hb172 ?htag172 (fun w1 hb1 => ?hy172) ?hn172; (case hw172 => rfl); (case hd172 => rfl); (case hop172 => rfl); (case hev172 => (simp only [Act.eval, Array.getD_eq_getD_getElem?, List.getElem?_toArray, List.getElem?_cons_succ, List.getElem?_cons_zero, Option.getD_some]; (try rfl))); (case hx172 => (simp only [Act.eval, Array.getD_eq_getD_getElem?, List.getElem?_toArray, List.getElem?_cons_succ, List.getElem?_cons_zero, Option.getD_some]; (try rfl))); (case hb172 => first | exact Bx.set_same _ _ _ | (simp only [Bx.set_same]; rfl)); (case hy172 => (go_simp; (try with_reducible rfl))); (try simp only [Act.put, List.setIfInBounds_toArray, List.set_cons_zero, List.set_cons_succ]))
          (refine TD.val0 (v := ?v173) (by simp only [List.getElem?_toArray, List.getElem?_cons_succ, List.getElem?_cons_zero]; rfl) rfl ?hw173 (fun w1 => ?hy173) ?hn173; (case hw173 => rfl); (case hy173 => (go_simp; (try with_reducible rfl))); (try simp only [Act.put, List.setIfInBounds_toArray, List.set_cons_zero, List.set_cons_succ]))
          refine TD.nil (fun w3 hr => ?_)
          have kp7 := hr.box p7 _ (by first | exact Bx.set_same _ _ _ | (simp only [Bx.set_same]; rfl)); dsimp only [Value.cells] at kp7; obtain ⟨gp7, kp7⟩ := kp7
          have q3 := hr.mod
          clear hr
          go_upto_region 17 with fail
          have Lkp7 := lt_size kp7
          refine wp_pass0 (C := fun _ _ v => v = .tuple #[.agg (rkc rk0), .int .i64 11]) (κ := fun i => [0, 0, 2, 0, 0, 0, 3, 4, 0].getD i 0) [0, 1, 2, 3, 4, 5, 6, 7, 8] (by kernel_rfl) (by kernel_rfl) (fun _ _ d _ _ h => by cases d <;> exact h) ?_
          (refine TD.val0 (v := ?v174) (by simp only [List.getElem?_toArray, List.getElem?_cons_succ, List.getElem?_cons_zero]; rfl) rfl ?hw174 (fun w1 => ?hy174) ?hn174; (case hw174 => rfl); (case hy174 => (go_simp; (try with_reducible rfl))); (try simp only [Act.put, List.setIfInBounds_toArray, List.set_cons_zero, List.set_cons_succ]))
          (refine TD.val0 (v := ?v175) (by simp only [List.getElem?_toArray, List.getElem?_cons_succ, List.getElem?_cons_zero]; rfl) rfl ?hw175 (fun w1 => ?hy175) ?hn175; (case hw175 => rfl); (case hy175 => (go_simp; (try with_reducible rfl))); (try simp only [Act.put, List.setIfInBounds_toArray, List.set_cons_zero, List.set_cons_succ]))
          (refine TD.call (f := ?f176) (args := ?r176) (Mod.refl _ _) (by simp only [List.getElem?_toArray, List.getElem?_cons_succ, List.getElem?_cons_zero]; rfl) rfl ?hw176 (fun w1 => ?hy176) ?hsp176 ?hn176; (case hw176 => rfl); (case hy176 => (go_simp; (first | with_reducible rfl | (constructor <;> with_reducible rfl)))); (case hsp176 => (intro wq hSq; have kp7q := hSq.at kp7 (fun h => h); exact ((HP.out.bb.mod0 (q3.then0 hSq)).dropNR id (by have := HP.out.lenD; omega) (fun y hy => HID.out y (HP.out.perm.mem_iff.1 hy))).mono (fun e w' h => ⟨_, h.1, rfl, h.2⟩))); rintro _ rfl; (try simp only [Act.put, List.setIfInBounds_toArray, List.set_cons_zero, List.set_cons_succ]))
          (refine TD.val0 (v := ?v177) (by simp only [List.getElem?_toArray, List.getElem?_cons_succ, List.getElem?_cons_zero]; rfl) rfl ?hw177 (fun w1 => ?hy177) ?hn177; (case hw177 => rfl); (case hy177 => (go_simp; (try with_reducible rfl))); (try simp only [Act.put, List.setIfInBounds_toArray, List.set_cons_zero, List.set_cons_succ]))
          (refine TD.val0 (v := ?v178) (by simp only [List.getElem?_toArray, List.getElem?_cons_succ, List.getElem?_cons_zero]; rfl) rfl ?hw178 (fun w1 => ?hy178) ?hn178; (case hw178 => rfl); (case hy178 => (go_simp; (try with_reducible rfl))); (try simp only [Act.put, List.setIfInBounds_toArray, List.set_cons_zero, List.set_cons_succ]))
          (refine TD.val0 (v := ?v179) (by simp only [List.getElem?_toArray, List.getElem?_cons_succ, List.getElem?_cons_zero]; rfl) rfl ?hw179 (fun w1 => ?hy179) ?hn179; (case hw179 => rfl); (case hy179 => (go_simp; (try with_reducible rfl))); (try simp only [Act.put, List.setIfInBounds_toArray, List.set_cons_zero, List.set_cons_succ]))
          (refine TD.allocB (by simp only [List.getElem?_toArray, List.getElem?_cons_succ, List.getElem?_cons_zero]; rfl) rfl ?hw180 rfl rfl alRk (fun p9 hp9 => ?hn180); (case hw180 => rfl); (try simp only [Act.put, List.setIfInBounds_toArray, List.set_cons_zero, List.set_cons_succ]))
          (refine TD.storeB (d := ?d181) (T := ?T181) (y := ?y181) (p := ?p181) (b := ?b181) (v := ?v181) (by simp only [List.getElem?_toArray, List.getElem?_cons_succ, List.getElem?_cons_zero]; rfl) rfl ?hw181 ?hd181 ?hop181 ?hev181 ?hx181 ?hb181 ?htag181 (fun w1 hb1 => ?hy181) ?hn181; (case hw181 => rfl); (case hd181 => rfl); (case hop181 => rfl); (case hev181 => (simp only [Act.eval, Array.getD_eq_getD_getElem?, List.getElem?_toArray, List.getElem?_cons_succ, List.getElem?_cons_zero, Option.getD_some]; (try rfl))); (case hx181 => (simp only [Act.eval, Array.getD_eq_getD_getElem?, List.getElem?_toArray, List.getElem?_cons_succ, List.getElem?_cons_zero, Option.getD_some]; (try rfl))); (case hb181 => first | exact Bx.set_same _ _ _ | (simp only [Bx.set_same]; rfl)); (case hy181 => (go_simp; (try with_reducible rfl))); (try simp only [Act.put, List.setIfInBounds_toArray, List.set_cons_zero, List.set_cons_succ]))
          (refine TD.val0 (v := ?v182) (by simp only [List.getElem?_toArray, List.getElem?_cons_succ, List.getElem?_cons_zero]; rfl) rfl ?hw182 (fun w1 => ?hy182) ?hn182; (case hw182 => rfl); (case hy182 => (go_simp; (try with_reducible rfl))); (try simp only [Act.put, List.setIfInBounds_toArray, List.set_cons_zero, List.set_cons_succ]))
          refine TD.nil (fun w4 hr => ?_)
          have kp7 := hr.mod.at kp7 (fun h => h)
          have kp9 := hr.box p9 _ (by first | exact Bx.set_same _ _ _ | (simp only [Bx.set_same]; rfl)); dsimp only [Value.cells] at kp9; obtain ⟨gp9, kp9⟩ := kp9
          have q4 := q3.then0 hr.mod
          clear hr
          go_upto_region 18 with fail
          have Lkp7 := lt_size kp7
          have Lkp9 := lt_size kp9
          refine wp_pass0 (C := fun _ _ _ => False) (κ := fun i => [1, 1, 0, 0, 0, 0, 0, 0].getD i 0) [0, 1, 2, 3, 4, 5, 6, 7] (by kernel_rfl) (by kernel_rfl) (fun _ _ d _ _ h => by cases d <;> exact h) ?_
          (refine TD.load (v := ?v183) (p := ?p183) (Mod.refl _ _) (by simp only [List.getElem?_toArray, List.getElem?_cons_succ, List.getElem?_cons_zero]; rfl) rfl ?hw183 rfl ?hx183 (fun wq hSq => ?hy183) ?hn183; (case hw183 => rfl); (case hx183 => (simp only [Act.eval, Array.getD_eq_getD_getElem?, List.getElem?_toArray, List.getElem?_cons_succ, List.getElem?_cons_zero, Option.getD_some]; (try rfl))); (case hy183 => (have kp7q := hSq.at kp7 (fun h => h); have kp9q := hSq.at kp9 (fun h => h); go_simp; (try with_reducible rfl))); (try simp only [Act.put, List.setIfInBounds_toArray, List.set_cons_zero, List.set_cons_succ]))
          (refine TD.load (v := ?v184) (p := ?p184) (Mod.refl _ _) (by simp only [List.getElem?_toArray, List.getElem?_cons_succ, List.getElem?_cons_zero]; rfl) rfl ?hw184 rfl ?hx184 (fun wq hSq => ?hy184) ?hn184; (case hw184 => rfl); (case hx184 => (simp only [Act.eval, Array.getD_eq_getD_getElem?, List.getElem?_toArray, List.getElem?_cons_succ, List.getElem?_cons_zero, Option.getD_some]; (try rfl))); (case hy184 => (have kp7q := hSq.at kp7 (fun h => h); have kp9q := hSq.at kp9 (fun h => h); go_simp; (try with_reducible rfl))); (try simp only [Act.put, List.setIfInBounds_toArray, List.set_cons_zero, List.set_cons_succ]))
          (refine TD.val0 (v := ?v185) (by simp only [List.getElem?_toArray, List.getElem?_cons_succ, List.getElem?_cons_zero]; rfl) rfl ?hw185 (fun w1 => ?hy185) ?hn185; (case hw185 => rfl); (case hy185 => (simp only [execOp, Act.eval, Array.getD_eq_getD_getElem?, List.getElem?_toArray, List.getElem?_cons_succ, List.getElem?_cons_zero, Option.getD_some, rkc_ext]; go_simp; (try with_reducible rfl))); (try simp only [Act.put, List.setIfInBounds_toArray, List.set_cons_zero, List.set_cons_succ]))
          (refine TD.val0 (v := ?v186) (by simp only [List.getElem?_toArray, List.getElem?_cons_succ, List.getElem?_cons_zero]; rfl) rfl ?hw186 (fun w1 => ?hy186) ?hn186; (case hw186 => rfl); (case hy186 => (go_simp; (try with_reducible rfl))); (try simp only [Act.put, List.setIfInBounds_toArray, List.set_cons_zero, List.set_cons_succ]))
          (refine TD.val0 (v := ?v187) (by simp only [List.getElem?_toArray, List.getElem?_cons_succ, List.getElem?_cons_zero]; rfl) rfl ?hw187 (fun w1 => ?hy187) ?hn187; (case hw187 => rfl); (case hy187 => (go_simp; (try with_reducible rfl))); (try simp only [Act.put, List.setIfInBounds_toArray, List.set_cons_zero, List.set_cons_succ]))
          (refine TD.val0 (v := ?v188) (by simp only [List.getElem?_toArray, List.getElem?_cons_succ, List.getElem?_cons_zero]; rfl) rfl ?hw188 (fun w1 => ?hy188) ?hn188; (case hw188 => rfl); (case hy188 => (go_simp; (try with_reducible rfl))); (try simp only [Act.put, List.setIfInBounds_toArray, List.set_cons_zero, List.set_cons_succ]))
          (refine TD.val0 (v := ?v189) (by simp only [List.getElem?_toArray, List.getElem?_cons_succ, List.getElem?_cons_zero]; rfl) rfl ?hw189 (fun w1 => ?hy189) ?hn189; (case hw189 => rfl); (case hy189 => (go_simp; (try with_reducible rfl))); (try simp only [Act.put, List.setIfInBounds_toArray, List.set_cons_zero, List.set_cons_succ]))
          (refine TD.val0 (v := ?v190) (by simp only [List.getElem?_toArray, List.getElem?_cons_succ, List.getElem?_cons_zero]; rfl) rfl ?hw190 (fun w1 => ?hy190) ?hn190; (case hw190 => rfl); (case hy190 => (go_simp; (try with_reducible rfl))); (try simp only [Act.put, List.setIfInBounds_toArray, List.set_cons_zero, List.set_cons_succ]))
          refine TD.nil (fun w5 hr => ?_)
          have kp7 := hr.mod.at kp7 (fun h => h)
          have kp9 := hr.mod.at kp9 (fun h => h)
          have HN := Lib.hid (HP.out.up (q4.then0 hr.mod))
          clear hr q3 q4 kp7 kp9 HP kl e1 e2 e3 d1
          go_wp2_with fail
          go_at_call 18
          refine (HN.out.bb.alike HN.out.perm HN.out.srt (by have := HN.out.len; omega)).mono ?_
          rintro e w6 ⟨rfl, mq⟩
          have HF := Lib.hid (And.intro (HN.out.bb.mod0 mq) (And.intro HN.out.perm (And.intro HN.out.srt HN.out.len)))
          clear mq HN
          go_wp2_with fail
          go_roundw
          case rel => exact ⟨i + 1, _, _, by omega, by go_num, Lib.hid ⟨HF.out.1, HF.out.2.1, HF.out.2.2.1, HF.out.2.2.2⟩⟩
          case measure => simp [intOf]; omega
    · have hie : i = l.length := by omega
      obtain ⟨wa, rfl⟩ : ∃ wa : World, wa = wr := ⟨_, rfl⟩
      have hDl := HP.out.lenD
      go_wp2_with fail
      go_at_call 19
      refine (HP.out.bb.list HP.out.perm HP.out.srt (by have := HP.out.len; omega)).mono ?_
      rintro e w3 ⟨v, rfl, hown, mq⟩
      obtain ⟨av, cv, rfl, _⟩ := hown.at intT
      have hS : ∀ g0, av = some g0 → wa.heap.size ≤ g0.block := fun g0 e => (hown.lt g0.block (by rw [e]; rfl)).1
      have hK : 0 < D.length → ∃ g cur, av = some ⟨g, 0, none⟩ ∧ w3.heap[g]? = some (.cells cur 3 (0, 0)) ∧ D.length ≤ cur.size := fun h0 => by
        rcases hown.2 with ⟨_, hn⟩ | ⟨g, cap, cur, e, hb, hg, hnc, hcm, hcs, _⟩
        · rw [List.length_map] at hn
          omega
        · rw [List.length_map] at hnc
          simp only [Value.slice.injEq] at e
          exact ⟨g, cur, e.1, hg, by omega⟩
      rw [List.length_map]
      have HK := Lib.hid (And.intro hS (And.intro mq hK))
      clear hown hS mq hK
      go_wp2_with fail
      go_loopw [12] (fun s12 ws => ∃ j : Nat, j ≤ D.length ∧ s12 = .int .i64 (j : Int) ∧ Hid (0 < D.length → ∃ g cur, av = some ⟨g, 0, none⟩ ∧ ws.heap[g]? = some (.cells cur 3 (0, 0)) ∧ D.length ≤ cur.size) ∧ Mod (fun b => ∃ g0, av = some g0 ∧ g0.block = b) w3 ws) (fun s12 _ => D.length - (intOf s12).toNat)
      case atStart => exact ⟨0, by omega, rfl, Lib.hid HK.out.2.2, Mod.refl _ _⟩
      case round =>
        obtain ⟨j, hj, rfl, HG, hm⟩ := hrel
        by_cases hlt2 : j < D.length
        · obtain ⟨g, cur, rfl, kg, hcs⟩ := HG.out (by omega)
          obtain ⟨cj, hcj⟩ : ∃ v, cur[j]? = some v := ⟨_, Array.getElem?_eq_getElem (by omega)⟩
          go_upto_region 26 with fail
          have Lkg := lt_size kg
          refine wp_pass0 (C := fun _ _ _ => False) (κ := fun i => [0, 0, 0, 5].getD i 0) [0, 1, 2, 3] (by kernel_rfl) (by kernel_rfl) (fun _ _ d _ _ h => by cases d <;> exact h) ?_
          (refine TD.val0 (v := ?v191) (by simp only [List.getElem?_toArray, List.getElem?_cons_succ, List.getElem?_cons_zero]; rfl) rfl ?hw191 (fun w1 => ?hy191) ?hn191; (case hw191 => rfl); (case hy191 => (go_simp; (try with_reducible rfl))); (try simp only [Act.put, List.setIfInBounds_toArray, List.set_cons_zero, List.set_cons_succ]))
          (refine TD.val0 (v := ?v192) (by simp only [List.getElem?_toArray, List.getElem?_cons_succ, List.getElem?_cons_zero]; rfl) rfl ?hw192 (fun w1 => ?hy192) ?hn192; (case hw192 => rfl); (case hy192 => (go_simp; (try with_reducible rfl))); (try simp only [Act.put, List.setIfInBounds_toArray, List.set_cons_zero, List.set_cons_succ]))
          (refine TD.val0 (v := ?v193) (by simp only [List.getElem?_toArray, List.getElem?_cons_succ, List.getElem?_cons_zero]; rfl) rfl ?hw193 (fun w1 => ?hy193) ?hn193; (case hw193 => rfl); (case hy193 => (go_simp; (try with_reducible rfl))); (try simp only [Act.put, List.setIfInBounds_toArray, List.set_cons_zero, List.set_cons_succ]))
          refine TD.eff (by simp only [List.getElem?_toArray, List.getElem?_cons_succ, List.getElem?_cons_zero]; rfl) rfl (fun w5 hr => ?_)
          have kg := hr.mod.at kg (fun h => h)
          have q5 := hr.mod
          clear hr
          (refine eff_store (X := ?X195) (Y := ?Y195) (w' := ?w195) (by simp only [List.getElem?_toArray, List.getElem?_cons_succ, List.getElem?_cons_zero]; rfl) ?hw195 rfl ?hx195 ?hz195 ?hy195 ?hn195; (case hw195 => rfl); (case hx195 => (simp only [Act.eval, Array.getD_eq_getD_getElem?, List.getElem?_toArray, List.getElem?_cons_succ, List.getElem?_cons_zero, Option.getD_some]; (try rfl))); (case hz195 => (simp only [Act.eval, Array.getD_eq_getD_getElem?, List.getElem?_toArray, List.getElem?_cons_succ, List.getElem?_cons_zero, Option.getD_some]; (try rfl))); (case hy195 => (go_simp; (try with_reducible rfl))))
          (first | refine TE.nil_set kg (fun wn kg mS => ?_) | refine TE.nil_setCell kg (fun wn kg mS => ?_))
          have q6 := (hm.then0 q5).then mS (fun b _ e => ⟨_, rfl, e.symm⟩)
          clear mS q5
          go_wp2_with fail
          go_roundw
          case rel => exact ⟨j + 1, by omega, by go_num, Lib.hid (fun _ => ⟨g, _, rfl, kg, by simpa using hcs⟩), q6⟩
          case measure => simp [intOf]; omega
        · have hje : j = D.length := by omega
          have HB : Hid (BB w h p C D wr) := Lib.hid (by
            obtain ⟨T, hB, hT, hmw⟩ := HP.out.bb
            have hm2 : Mod (fun b => ∃ g0, av = some g0 ∧ g0.block = b) wa wr := (HK.out.2.1.mono (fun _ _ e => e.elim)).then hm (fun _ _ e => e)
            refine ⟨T, (goodBB h p C D).cl T wa _ hB (hm2.mono (fun b hb hn ht => ?_)), fun i hi => ⟨(hT i hi).1, Nat.lt_of_lt_of_le (hT i hi).2 hm2.size⟩, hmw.then hm2 (fun b hb hn => ?_)⟩
            · obtain ⟨g0, e, rfl⟩ := hn
              have := HK.out.1 g0 e
              omega
            · obtain ⟨g0, e, rfl⟩ := hn
              have := HK.out.1 g0 e
              have := hmw.size
              omega)
          go_wp2_with fail
          go_at_call 18
          refine (HB.out.alike HP.out.perm HP.out.srt (by have := HP.out.len; omega)).mono ?_
          rintro e w6 ⟨rfl, mq⟩
          have HM := Lib.hid (HB.out.m.then0 mq)
          clear mq
          go_wp2_with fail
          go_at_call 9
          refine (lives_c _).mono ?_
          rintro e w7 ⟨rfl, mq⟩
          have mF := HM.out.then0 mq
          go_wp2_with fail
          go_ret
          exact ⟨rfl, mF⟩
end Go.Proofs.Ytnibhnnpjkemhaa
