/- container/heap at a side: up. -/
import Derived.Test.YtdeghpmlhcaedaaDoorSp
namespace Go.Proofs.YtdeghpmlhcaedaaDoor
open Go.RowKit Go.Sort
open Go.ChangeMaps (setBlock)
set_option linter.unusedSimpArgs false
set_option linter.unusedVariables false
attribute [local go_sem ↓] wlRk ldRk stRk eqRk eqRk2
attribute [local go_sem] rkc_size ndc_size cell_blk frozen_blk one_int one_bool one_ptr one_slice one_map Value.cells enter_fn
def lessOf (k : Bool) (nd : Nat → Nd) (a b : Nat) : Bool := flt k (nd a) (nd b)
theorem weak_less (k : Bool) (nd : Nat → Nd) : Weak (lessOf k nd) := ⟨fun _ _ h => flt_asymm h, fun _ _ _ h1 h2 => flt_negtrans h1 h2⟩
abbrev hpV (s : Nat) : Value := .iface 109 (ptrV s)
theorem m_less (v : Value) (w : World) : (method 287 109 v "Less").run Tryd.prog w = .ok (118, v) w := by kernel_rfl
theorem e_less (args : Array Value) (w : World) : (callFunc 118 args).run Tryd.prog w = .ok (.enter 118 args) w := enters_of Tryd.func118 (by kernel_rfl) rfl args w
theorem m_swap (v : Value) (w : World) : (method 287 109 v "Swap").run Tryd.prog w = .ok (121, v) w := by kernel_rfl
theorem e_swap (args : Array Value) (w : World) : (callFunc 121 args).run Tryd.prog w = .ok (.enter 121 args) w := enters_of Tryd.func121 (by kernel_rfl) rfl args w
theorem m_len (v : Value) (w : World) : (method 287 109 v "Len").run Tryd.prog w = .ok (117, v) w := by kernel_rfl
theorem e_len (args : Array Value) (w : World) : (callFunc 117 args).run Tryd.prog w = .ok (.enter 117 args) w := enters_of Tryd.func117 (by kernel_rfl) rfl args w
theorem m_push (v : Value) (w : World) : (method 287 109 v "Push").run Tryd.prog w = .ok (120, v) w := by kernel_rfl
theorem e_push (args : Array Value) (w : World) : (callFunc 120 args).run Tryd.prog w = .ok (.enter 120 args) w := enters_of Tryd.func120 (by kernel_rfl) rfl args w
theorem m_pop (v : Value) (w : World) : (method 287 109 v "Pop").run Tryd.prog w = .ok (119, v) w := by kernel_rfl
theorem e_pop (args : Array Value) (w : World) : (callFunc 119 args).run Tryd.prog w = .ok (.enter 119 args) w := enters_of Tryd.func119 (by kernel_rfl) rfl args w
section
variable {w w' : World} {s : Nat} {k : Bool} {v : Value} {L : List Nat} {nd : Nat → Nd} {o : Nat → Int}
set_option maxRecDepth 20000 in
set_option maxHeartbeats 3200000 in
theorem up_c (h : Sd w s k v L nd o) {n j : Nat} (hn : n ≤ L.length) (hj : j < n) (hl : L.length ≤ 900000) (hu : UpOk (lessOf k nd) n L j) : Calls Tryd.prog 76 #[hpV s, .int .i64 (j : Int)] w fun e w' =>
    e = .returned (.tuple #[]) ∧ ∃ L', Sd w' s k v L' nd o ∧ HeapOk (lessOf k nd) n L' ∧ L'.Perm L ∧ (∀ c, n ≤ c → L'[c]? = L[c]?) ∧ Mod (fun x => v.ownBlock = some x ∨ x ∈ L) w w' := by
  have H := Lib.hid h
  have HU := Lib.hid hu
  clear h hu
  go_enter Tryd.func76, Tryd.ntmps76
  go_wp2_with fail
  go_loopw [1, 4] (fun s1 s4 ws => ∃ (j : Nat) (L' : List Nat), j < n ∧ s1 = .int .i64 (j : Int) ∧ Hid (Sd ws s k v L' nd o ∧ UpOk (lessOf k nd) n L' j ∧ L'.Perm L ∧ (∀ c, n ≤ c → L'[c]? = L[c]?) ∧ Mod (fun x => v.ownBlock = some x ∨ x ∈ L) w ws)) (fun s1 _ _ => (intOf s1).toNat)
  case atStart => exact ⟨j, L, hj, rfl, Lib.hid ⟨H.out, HU.out, .refl _, fun _ _ => rfl, Mod.refl _ _⟩⟩
  case round =>
    obtain ⟨j, L', hj, rfl, HR⟩ := hrel
    rcases Nat.eq_zero_or_pos j with rfl | hj0
    · go_wp2_with fail
      go_end0
      obtain ⟨h1, h2, h3, h4, h5⟩ := HR.out
      exact ⟨rfl, L', h1, h2.stop (.inl rfl), h3, h4, h5⟩
    · have ht : ((j : Int) - 1).tdiv 2 = (((j - 1) / 2 : Nat) : Int) := by
        rw [Int.tdiv_eq_ediv_of_nonneg (by omega)]
        omega
      have hib : ((((j - 1) / 2 : Nat) : Int) == (j : Int)) = false := by
        rw [beq_eq_false_iff_ne]
        omega
      have hi : (j - 1) / 2 < j := by omega
      have HI : Hid ((j - 1) / 2 = (j - 1) / 2) := Lib.hid rfl
      generalize hie : (j - 1) / 2 = i at *
      go_wp2_with fail
      rw [m_less]
      simp only [Result.andThen, e_less, Oper.upon]
      have hlen : n ≤ L'.length := by rw [HR.out.2.2.1.length_eq]; exact hn
      obtain ⟨a, ha⟩ : ∃ a, L'[j]? = some a := ⟨_, List.getElem?_eq_getElem (by omega)⟩
      obtain ⟨b, hb⟩ : ∃ b, L'[i]? = some b := ⟨_, List.getElem?_eq_getElem (by omega)⟩
      refine (less_c HR.out.1 ha hb).mono ?_
      rintro e w1 ⟨rfl, m1⟩
      have HA := Lib.hid ha
      have HB := Lib.hid hb
      clear ha hb
      cases hlt : flt k (nd a) (nd b)
      · have HLT := Lib.hid hlt
        clear hlt
        go_wp2_with fail
        go_end0
        obtain ⟨h1, h2, h3, h4, h5⟩ := HR.out
        refine ⟨rfl, L', h1.mod0 m1, h2.stop (.inr (fun x y hx hy => ?_)), h3, h4, h5.then0 m1⟩
        rw [HA.out] at hx
        rw [hie, HB.out] at hy
        cases hx
        cases hy
        exact HLT.out
      · have HLT := Lib.hid hlt
        clear hlt
        go_wp2_with fail
        rw [m_swap]
        simp only [Result.andThen, e_swap, Oper.upon]
        refine (swap_c (HR.out.1.mod0 m1) (i := i) (j := j) (by omega) (by omega) (by omega)).mono ?_
        rintro e w2 ⟨rfl, hS2, m2⟩
        have HS2 := Lib.hid hS2
        clear hS2
        obtain ⟨h1, h2, h3, h4, h5⟩ := HR.out
        have HX : Hid (Sd w2 s k v (swapL L' i j) nd o ∧ UpOk (lessOf k nd) n (swapL L' i j) i ∧ (swapL L' i j).Perm L ∧ (∀ c, n ≤ c → (swapL L' i j)[c]? = L[c]?) ∧ Mod (fun x => v.ownBlock = some x ∨ x ∈ L) w w2) := Lib.hid (by
          refine ⟨HS2.out, ?_, (swapL_perm (by omega) (by omega)).trans h3, fun c hc => ?_, (h5.then0 m1).then m2 (fun x _ e => e.elim .inl (fun e => .inr (h3.mem_iff.1 e)))⟩
          · have := h2.step (weak_less k nd) hlen hj0 hj HA.out (by rw [hie]; exact HB.out) HLT.out
            rwa [hie] at this
          · rw [swapL_get (by omega) (by omega), if_neg (by omega), if_neg (by omega), h4 c hc])
        clear h1 h2 h3 h4 h5
        go_wp2_with fail
        go_roundw
        case rel => exact ⟨i, swapL L' i j, by omega, rfl, HX⟩
        case measure => simp [intOf]; omega
end
end Go.Proofs.YtdeghpmlhcaedaaDoor
