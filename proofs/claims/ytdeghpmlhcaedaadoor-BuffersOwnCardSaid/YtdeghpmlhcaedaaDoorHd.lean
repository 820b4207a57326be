/- container/heap at a side: down. -/
import Derived.Test.YtdeghpmlhcaedaaDoorHu
namespace Go.Proofs.YtdeghpmlhcaedaaDoor
open Go.RowKit Go.Sort
open Go.ChangeMaps (setBlock)
set_option linter.unusedSimpArgs false
set_option linter.unusedVariables false
attribute [local go_sem ↓] wlRk ldRk stRk eqRk eqRk2
attribute [local go_sem] rkc_size ndc_size cell_blk frozen_blk one_int one_bool one_ptr one_slice one_map Value.cells enter_fn
theorem flt_irrefl (k : Bool) (a : Nd) : flt k a a = false := by cases k <;> exact nlt_irrefl a
section
variable {w w' : World} {s : Nat} {k : Bool} {v : Value} {L : List Nat} {nd : Nat → Nd} {o : Nat → Int}
/-- What the steps down keep. -/
def DnR (w ws : World) (s : Nat) (k : Bool) (v : Value) (L L' : List Nat) (nd : Nat → Nd) (o : Nat → Int) (n i0 i : Nat) : Prop :=
  Sd ws s k v L' nd o ∧ SiftOk (lessOf k nd) n L' i ∧ (i0 < i → DownOk (lessOf k nd) n L' i) ∧ L'.Perm L ∧ (∀ c, n ≤ c → L'[c]? = L[c]?) ∧ Mod (fun x => v.ownBlock = some x ∨ x ∈ L) w ws
/-- What is known when no child goes ahead. -/
def DnE (w ws : World) (s : Nat) (k : Bool) (v : Value) (L L' : List Nat) (nd : Nat → Nd) (o : Nat → Int) (n i0 : Nat) (moved : Bool) : Prop :=
  Sd ws s k v L' nd o ∧ (moved = true → HeapOk (lessOf k nd) n L') ∧ (moved = false → UpOk (lessOf k nd) n L' i0) ∧ L'.Perm L ∧ (∀ c, n ≤ c → L'[c]? = L[c]?) ∧ Mod (fun x => v.ownBlock = some x ∨ x ∈ L) w ws
theorem DnR.stop {w ws : World} {L L' : List Nat} {n i0 i : Nat} (h : DnR w ws s k v L L' nd o n i0 i) (hi : i0 ≤ i) (hs : Still (lessOf k nd) n L' i) : DnE w ws s k v L L' nd o n i0 (decide (i0 < i)) := by
  obtain ⟨h1, h2, h3, h4, h5, h6⟩ := h
  refine ⟨h1, fun e => ?_, fun e => ?_, h4, h5, h6⟩
  · exact (h3 (of_decide_eq_true e)).stop hs
  · have := of_decide_eq_false e
    obtain rfl : i0 = i := by omega
    exact h2.stop hs
theorem DnR.mod0 {w ws wt : World} {L L' : List Nat} {n i0 i : Nat} (h : DnR w ws s k v L L' nd o n i0 i) (hm : Mod (fun _ => False) ws wt) : DnR w wt s k v L L' nd o n i0 i := by
  obtain ⟨h1, h2, h3, h4, h5, h6⟩ := h
  exact ⟨h1.mod0 hm, h2, h3, h4, h5, h6.then0 hm⟩
theorem DnR.step {w ws wt : World} {L L' : List Nat} {n i0 i j a b : Nat} (h : DnR w ws s k v L L' nd o n i0 i) (hn : n ≤ L'.length) (hi : i0 ≤ i) (hf : First (lessOf k nd) n L' i j) (ha : L'[j]? = some a) (hb : L'[i]? = some b) (hlt : flt k (nd a) (nd b) = true)
    (hS : Sd wt s k v (swapL L' i j) nd o) (hm : Mod (fun x => v.ownBlock = some x ∨ x ∈ L') ws wt) : DnR w wt s k v L (swapL L' i j) nd o n i0 j := by
  obtain ⟨h1, h2, h3, h4, h5, h6⟩ := h
  have hj := hf.2.1
  have hij : i < j := by have := hf.1; omega
  have hd := h2.step (weak_less k nd) hn hf ha hb hlt
  refine ⟨hS, hd.sift, fun _ => hd, (swapL_perm (by omega) (by omega)).trans h4, fun c hc => ?_, h6.then hm (fun x _ e => e.elim .inl (fun e => .inr (h4.mem_iff.1 e)))⟩
  rw [swapL_get (by omega) (by omega), if_neg (by omega), if_neg (by omega), h5 c hc]
set_option maxRecDepth 20000 in
set_option maxHeartbeats 3200000 in
theorem down_c (h : Sd w s k v L nd o) {n i0 : Nat} (hn : n ≤ L.length) (hi0 : i0 < n) (hl : L.length ≤ 900000) (hu : SiftOk (lessOf k nd) n L i0) : Calls Tryd.prog 75 #[hpV s, .int .i64 (i0 : Int), .int .i64 (n : Int)] w fun e w' =>
    ∃ L' moved, e = .returned (.bool moved) ∧ DnE w w' s k v L L' nd o n i0 moved := by
  have HH : Hid (DnR w w s k v L L nd o n i0 i0) := Lib.hid ⟨h, hu, fun e => by omega, .refl _, fun _ _ => rfl, Mod.refl _ _⟩
  clear h hu
  go_enter Tryd.func75, Tryd.ntmps75
  go_wp2_with fail
  go_loopw [7, 8, 9, 10] (fun s7 s8 s9 s10 ws => ∃ (i : Nat) (L' : List Nat), i < n ∧ i0 ≤ i ∧ s7 = .int .i64 (i : Int) ∧ Hid (DnR w ws s k v L L' nd o n i0 i)) (fun s7 _ _ _ _ => n - (intOf s7).toNat)
  case atStart => exact ⟨i0, L, hi0, Nat.le_refl _, rfl, HH⟩
  case round =>
    clear hi0
    obtain ⟨i, L', hi, hi0, rfl, HR⟩ := hrel
    have hlen : n ≤ L'.length := by rw [HR.out.2.2.2.1.length_eq]; exact hn
    have e1 : 2 * (i : Int) + 1 = ((2 * i + 1 : Nat) : Int) := by omega
    have e2 : ((2 * i + 1 : Nat) : Int) + 1 = ((2 * i + 2 : Nat) : Int) := by omega
    have hij : i < 2 * i + 1 := by omega
    have hcc : 2 * i + 1 < 2 * i + 2 := by omega
    generalize hd1 : 2 * i + 1 = c1 at *
    generalize hd2 : 2 * i + 2 = c2 at *
    have HD1 := Lib.hid hd1
    have HD2 := Lib.hid hd2
    clear hd1 hd2
    by_cases hc : c1 < n
    ·
      by_cases hc2 : c2 < n
      · obtain ⟨x1, hx1⟩ : ∃ a, L'[c1]? = some a := ⟨_, List.getElem?_eq_getElem (by omega)⟩
        obtain ⟨x2, hx2⟩ : ∃ a, L'[c2]? = some a := ⟨_, List.getElem?_eq_getElem (by omega)⟩
        have HX1 := Lib.hid hx1
        have HX2 := Lib.hid hx2
        clear hx1 hx2
        go_wp2_with fail
        rw [m_less]
        simp only [Result.andThen, e_less, Oper.upon]
        refine (less_c HR.out.1 HX2.out HX1.out).mono ?_
        rintro e w1 ⟨rfl, m1⟩
        have HR1 := Lib.hid (HR.out.mod0 m1)
        clear m1 HR
        cases hz : flt k (nd x2) (nd x1)
        · have HF : Hid (First (lessOf k nd) n L' i c1) := Lib.hid ⟨.inl HD1.out.symm, hc, fun c x y hcn hcc hx hy => by
            rw [HX1.out] at hy
            cases hy
            rcases hcc with e | e
            · rw [show c = c1 by rw [e, HD1.out], HX1.out] at hx
              cases hx
              exact flt_irrefl _ _
            · rw [show c = c2 by rw [e, HD2.out], HX2.out] at hx
              cases hx
              exact hz⟩
          clear hz
          go_wp2_with fail
          obtain ⟨a, ha⟩ : ∃ a, L'[c1]? = some a := ⟨_, List.getElem?_eq_getElem (by omega)⟩
          obtain ⟨b, hb⟩ : ∃ b, L'[i]? = some b := ⟨_, List.getElem?_eq_getElem (by omega)⟩
          rw [m_less]
          simp only [Result.andThen, e_less, Oper.upon]
          refine (less_c HR1.out.1 ha hb).mono ?_
          rintro e w2 ⟨rfl, m2⟩
          have HA := Lib.hid ha
          have HB := Lib.hid hb
          have HR2 := Lib.hid (HR1.out.mod0 m2)
          clear ha hb m2
          cases hlt : flt k (nd a) (nd b)
          · have HE := Lib.hid (HR2.out.stop hi0 (Still.of_first (weak_less k nd) HF.out HA.out HB.out hlt))
            clear hlt
            go_wp2_with fail
            go_ret
            exact ⟨L', decide (i0 < i), by simp, HE.out⟩
          · have HLT := Lib.hid hlt
            clear hlt
            go_wp2_with fail
            rw [m_swap]
            simp only [Result.andThen, e_swap, Oper.upon]
            refine (swap_c HR2.out.1 (i := i) (j := c1) (by omega) (by omega) (by omega)).mono ?_
            rintro e w3 ⟨rfl, hS3, m3⟩
            have HX := Lib.hid (HR2.out.step hlen hi0 HF.out HA.out HB.out HLT.out hS3 m3)
            clear hS3 m3
            go_wp2_with fail
            go_roundw
            case rel => exact ⟨c1, swapL L' i c1, by omega, by omega, rfl, HX⟩
            case measure => simp [intOf]; omega
        · have HF : Hid (First (lessOf k nd) n L' i c2) := Lib.hid ⟨.inr HD2.out.symm, hc2, fun c x y hcn hcc hx hy => by
            rw [HX2.out] at hy
            cases hy
            rcases hcc with e | e
            · rw [show c = c1 by rw [e, HD1.out], HX1.out] at hx
              cases hx
              exact flt_asymm hz
            · rw [show c = c2 by rw [e, HD2.out], HX2.out] at hx
              cases hx
              exact flt_irrefl _ _⟩
          clear hz
          go_wp2_with fail
          obtain ⟨a, ha⟩ : ∃ a, L'[c2]? = some a := ⟨_, List.getElem?_eq_getElem (by omega)⟩
          obtain ⟨b, hb⟩ : ∃ b, L'[i]? = some b := ⟨_, List.getElem?_eq_getElem (by omega)⟩
          rw [m_less]
          simp only [Result.andThen, e_less, Oper.upon]
          refine (less_c HR1.out.1 ha hb).mono ?_
          rintro e w2 ⟨rfl, m2⟩
          have HA := Lib.hid ha
          have HB := Lib.hid hb
          have HR2 := Lib.hid (HR1.out.mod0 m2)
          clear ha hb m2
          cases hlt : flt k (nd a) (nd b)
          · have HE := Lib.hid (HR2.out.stop hi0 (Still.of_first (weak_less k nd) HF.out HA.out HB.out hlt))
            clear hlt
            go_wp2_with fail
            go_ret
            exact ⟨L', decide (i0 < i), by simp, HE.out⟩
          · have HLT := Lib.hid hlt
            clear hlt
            go_wp2_with fail
            rw [m_swap]
            simp only [Result.andThen, e_swap, Oper.upon]
            refine (swap_c HR2.out.1 (i := i) (j := c2) (by omega) (by omega) (by omega)).mono ?_
            rintro e w3 ⟨rfl, hS3, m3⟩
            have HX := Lib.hid (HR2.out.step hlen hi0 HF.out HA.out HB.out HLT.out hS3 m3)
            clear hS3 m3
            go_wp2_with fail
            go_roundw
            case rel => exact ⟨c2, swapL L' i c2, by omega, by omega, rfl, HX⟩
            case measure => simp [intOf]; omega
      · have HR1 := HR
        have HF : Hid (First (lessOf k nd) n L' i c1) := Lib.hid ⟨.inl HD1.out.symm, hc, fun c x y hcn hcc hx hy => by
            rcases hcc with e | e
            · rw [show c = c1 by rw [e, HD1.out], hy] at hx
              cases hx
              exact flt_irrefl _ _
            · have := HD2.out
              omega⟩
        clear HR
        go_wp2_with fail
        obtain ⟨a, ha⟩ : ∃ a, L'[c1]? = some a := ⟨_, List.getElem?_eq_getElem (by omega)⟩
        obtain ⟨b, hb⟩ : ∃ b, L'[i]? = some b := ⟨_, List.getElem?_eq_getElem (by omega)⟩
        rw [m_less]
        simp only [Result.andThen, e_less, Oper.upon]
        refine (less_c HR1.out.1 ha hb).mono ?_
        rintro e w2 ⟨rfl, m2⟩
        have HA := Lib.hid ha
        have HB := Lib.hid hb
        have HR2 := Lib.hid (HR1.out.mod0 m2)
        clear ha hb m2
        cases hlt : flt k (nd a) (nd b)
        · have HE := Lib.hid (HR2.out.stop hi0 (Still.of_first (weak_less k nd) HF.out HA.out HB.out hlt))
          clear hlt
          go_wp2_with fail
          go_ret
          exact ⟨L', decide (i0 < i), by simp, HE.out⟩
        · have HLT := Lib.hid hlt
          clear hlt
          go_wp2_with fail
          rw [m_swap]
          simp only [Result.andThen, e_swap, Oper.upon]
          refine (swap_c HR2.out.1 (i := i) (j := c1) (by omega) (by omega) (by omega)).mono ?_
          rintro e w3 ⟨rfl, hS3, m3⟩
          have HX := Lib.hid (HR2.out.step hlen hi0 HF.out HA.out HB.out HLT.out hS3 m3)
          clear hS3 m3
          go_wp2_with fail
          go_roundw
          case rel => exact ⟨c1, swapL L' i c1, by omega, by omega, rfl, HX⟩
          case measure => simp [intOf]; omega
    · have HE := Lib.hid (HR.out.stop hi0 (Still.none (by have := HD1.out; omega)))
      go_wp2_with fail
      go_ret
      exact ⟨L', decide (i0 < i), by simp, HE.out⟩
end
end Go.Proofs.YtdeghpmlhcaedaaDoor
