/- container/heap at a side: Push, Remove. -/
import Derived.Test.YtdeghpmlhcaedaaDoorHd
namespace Go.Proofs.YtdeghpmlhcaedaaDoor
open Go.RowKit Go.Sort
open Go.ChangeMaps (setBlock)
set_option linter.unusedSimpArgs false
set_option linter.unusedVariables false
attribute [local go_sem ↓] wlRk ldRk stRk eqRk eqRk2
attribute [local go_sem] rkc_size ndc_size cell_blk frozen_blk one_int one_bool one_ptr one_slice one_map Value.cells enter_fn
section
variable {w w' : World} {s : Nat} {k : Bool} {v : Value} {L : List Nat} {nd : Nat → Nd} {o : Nat → Int}
set_option maxRecDepth 20000 in
set_option maxHeartbeats 3200000 in
theorem hpush_c (h : Sd w s k v L nd o) {n : Nat} {i0 : Int} (hn : w.heap[n]? = some (.cells (ndc k (nd n) i0 (o n)) 131 (0, 0))) (hnL : n ∉ L) (hl : L.length ≤ 800000) (hh : HeapOk (lessOf k nd) L.length L) : Calls Tryd.prog 58 #[hpV s, .iface 117 (ptrV n)] w fun e w' =>
    e = .returned (.tuple #[]) ∧ ∃ v' L', Sd w' s k v' L' nd o ∧ HeapOk (lessOf k nd) L'.length L' ∧ L'.Perm (L ++ [n]) ∧ Mod (fun x => x = s ∨ x = n ∨ v.ownBlock = some x ∨ x ∈ L) w w' ∧ (v'.ownBlock = v.ownBlock ∨ ∃ g, v'.ownBlock = some g ∧ w.heap.size ≤ g) := by
  have hc := push_c h hn hnL (by omega)
  have HU := Lib.hid (hh.up n rfl (weak_less k nd))
  have hw1 : IntKind.i64.wrap (((L.length + 1 : Nat) : Int) - 1) = (L.length : Int) := by
    rw [IntKind.wrap_i64]
    omega
  clear h hn hh
  go_enter Tryd.func58, Tryd.ntmps58
  go_wp2_with fail
  rw [m_push]
  simp only [Result.andThen, e_push, Oper.upon]
  refine hc.mono ?_
  rintro e w1 ⟨rfl, v', hS, hm, hv⟩
  have HS := Lib.hid hS
  have HM := Lib.hid hm
  have HV := Lib.hid hv
  clear hS hm hv hc
  have hlen : (L ++ [n]).length = L.length + 1 := by simp
  have HN := Lib.hid hlen
  clear hlen
  go_wp2_with fail
  rw [m_len]
  simp only [Result.andThen, e_len, Oper.upon]
  refine (len_c HS.out).mono ?_
  rintro e w2 ⟨rfl, rfl⟩
  rw [HN.out]
  go_wp2_with fail
  go_at_call 76
  have hup := up_c HS.out (n := L.length + 1) (j := L.length) (by rw [HN.out]; exact Nat.le_refl _) (by omega) (by rw [HN.out]; omega) HU.out
  refine hup.mono ?_
  rintro e w3 ⟨rfl, L', h1, h2, h3, h4, h5⟩
  have HX := Lib.hid (And.intro h1 (And.intro h2 (And.intro h3 h5)))
  clear h1 h2 h3 h4 h5 hup
  go_wp2_with fail
  go_end0
  obtain ⟨h1, h2, h3, h5⟩ := HX.out
  refine ⟨rfl, v', L', h1, by rw [h3.length_eq, HN.out]; exact h2, h3, HM.out.mono (T := fun x => x = s ∨ x = n ∨ v.ownBlock = some x ∨ x ∈ L) (fun x _ e => ?_) |>.then h5 (fun x hx e => ?_), HV.out⟩
  · rcases e with e | e | e
    · exact .inl e
    · exact .inr (.inl e)
    · exact .inr (.inr (.inl e))
  · rcases e with e | e
    · rcases HV.out with hv | ⟨g, hv, hg⟩
      · rw [hv] at e
        exact .inr (.inr (.inl e))
      · rw [hv] at e
        cases e
        omega
    · rcases List.mem_append.1 e with e | e
      · exact .inr (.inr (.inr e))
      · exact .inr (.inl (List.mem_singleton.1 e))
/-- The last one is x: what is ahead of it. -/
theorem last_of {L2 : List Nat} {n x : Nat} (hl : L2.length = n + 1) (hx : L2[n]? = some x) : L2 = L2.take n ++ [x] := by
  have h1 := List.take_append_drop n L2
  have h2 : L2.drop n = [x] := by
    rw [drop_cons hx, List.drop_of_length_le (by omega)]
  rw [h2] at h1
  exact h1.symm
set_option maxRecDepth 20000 in
set_option maxHeartbeats 3200000 in
theorem hremove_c (h : Sd w s k v L nd o) {n i x : Nat} (hl : L.length = n + 1) (hx : L[i]? = some x) (hn : n ≤ 800000) (hh : HeapOk (lessOf k nd) L.length L) : Calls Tryd.prog 56 #[hpV s, .int .i64 (i : Int)] w fun e w' =>
    ∃ v' L', e = .returned (.iface 117 (ptrV x)) ∧ Sd w' s k v' L' nd o ∧ HeapOk (lessOf k nd) L'.length L' ∧ (L' ++ [x]).Perm L ∧ Mod (fun t => t = s ∨ v.ownBlock = some t ∨ t ∈ L) w w' ∧ v'.ownBlock = v.ownBlock ∧ ∃ i' : Int, w'.heap[x]? = some (.cells (ndc k (nd x) i' (o x)) 131 (0, 0)) := by
  have hi : i < n + 1 := by have := (List.getElem?_eq_some_iff.1 hx).1; omega
  have HX0 := Lib.hid hx
  have H := Lib.hid h
  have HHo := Lib.hid hh
  have HL := Lib.hid hl
  have hlen := len_c h
  have hw1 : IntKind.i64.wrap (((n + 1 : Nat) : Int) - 1) = (n : Int) := by
    rw [IntKind.wrap_i64]
    omega
  rw [hl] at hlen
  clear h hh hx hl
  go_enter Tryd.func56, Tryd.ntmps56
  go_wp2_with fail
  rw [m_len]
  simp only [Result.andThen, e_len, Oper.upon]
  refine hlen.mono ?_
  rintro e w1 ⟨rfl, rfl⟩
  clear hlen
  by_cases hin : i = n
  · subst hin
    have hne : ((i : Int) != (i : Int)) = false := by simp
    have hz := last_of HL.out HX0.out
    have HZ : Hid (Sd w1 s k v (L.take i ++ [x]) nd o ∧ HeapOk (lessOf k nd) (L.take i).length (L.take i) ∧ (L.take i ++ [x]).Perm L ∧ Mod (fun t => v.ownBlock = some t ∨ t ∈ L) w1 w1) := Lib.hid (by
      rw [← hz]
      refine ⟨H.out, ?_, .refl _, Mod.refl _ _⟩
      have h1 : (L.take i).length = i := by rw [List.length_take, HL.out]; omega
      rw [h1]
      exact (HHo.out.mono (by rw [HL.out]; omega)).take)
    have HL2 : Hid ((L.take i).length ≤ 900000) := Lib.hid (by rw [List.length_take]; omega)
    clear hz
    go_wp2_with fail
    rw [m_pop]
    simp only [Result.andThen, e_pop, Oper.upon]
    refine (pop_c HZ.out.1 HL2.out).mono ?_
    rintro e w9 ⟨rfl, v', hS9, hm9, hv9⟩
    have HX := Lib.hid (And.intro hS9 (And.intro hm9 hv9))
    clear hS9 hm9 hv9
    go_wp2_with fail
    go_ret
    obtain ⟨hS9, hm9, hv9⟩ := HX.out
    obtain ⟨z1, z2, z3, z4⟩ := HZ.out
    have kx := z1.nodes _ x (by rw [List.getElem?_append_right (Nat.le_refl _), Nat.sub_self]; rfl)
    exact ⟨v', _, rfl, hS9, z2, z3, (z4.mono (fun _ _ e => .inr e)).then hm9 (fun _ _ e => .inl e), hv9, _, hm9.at kx (fun e => ne_of_obj kx z1.side (obj_ty (by decide)) e)⟩
  · have hne : ((n : Int) != (i : Int)) = true := by
      rw [bne_iff_ne]
      omega
    have hin2 : i < n := by omega
    go_wp2_with fail
    rw [m_swap]
    simp only [Result.andThen, e_swap, Oper.upon]
    refine (swap_c H.out (i := i) (j := n) (by rw [HL.out]; omega) (by rw [HL.out]; omega) (by omega)).mono ?_
    rintro e w2 ⟨rfl, hS2, m2⟩
    have HS2 := Lib.hid hS2
    have HM2 := Lib.hid m2
    clear hS2 m2
    have HSI : Hid (SiftOk (lessOf k nd) n (swapL L i n) i) := Lib.hid (HeapOk.sift (weak_less k nd) (by rw [← HL.out]; exact HHo.out) HL.out hin2)
    have HLs : Hid ((swapL L i n).length = n + 1) := Lib.hid (by rw [swapL_length, HL.out])
    have HPs : Hid ((swapL L i n).Perm L) := Lib.hid (swapL_perm (by rw [HL.out]; omega) (by rw [HL.out]; omega))
    have HXs : Hid ((swapL L i n)[n]? = some x) := Lib.hid (by rw [swapL_get (by rw [HL.out]; omega) (by rw [HL.out]; omega), if_pos rfl, HX0.out])
    generalize swapL L i n = Ls at *
    go_wp2_with fail
    go_at_call 75
    refine (down_c HS2.out (n := n) (i0 := i) (by rw [HLs.out]; omega) hin2 (by rw [HLs.out]; omega) HSI.out).mono ?_
    rintro e w3 ⟨L3, moved, rfl, hE⟩
    have HE := Lib.hid hE
    clear hE
    cases moved
    · go_wp2_with fail
      go_at_call 76
      refine (up_c HE.out.1 (n := n) (j := i) (by rw [HE.out.2.2.2.1.length_eq, HLs.out]; omega) hin2 (by rw [HE.out.2.2.2.1.length_eq, HLs.out]; omega) (HE.out.2.2.1 rfl)).mono ?_
      rintro e w4 ⟨rfl, L4, h1, h2, h3, h4, h5⟩
      have hz := last_of (L2 := L4) (n := n) (x := x) (by rw [h3.length_eq, HE.out.2.2.2.1.length_eq, HLs.out]) (by rw [h4 n (Nat.le_refl _), HE.out.2.2.2.2.1 n (Nat.le_refl _), HXs.out])
      have HZ : Hid (Sd w4 s k v (L4.take n ++ [x]) nd o ∧ HeapOk (lessOf k nd) (L4.take n).length (L4.take n) ∧ (L4.take n ++ [x]).Perm L ∧ Mod (fun t => v.ownBlock = some t ∨ t ∈ L) w1 w4) := Lib.hid (by
        rw [← hz]
        have e1 : (L4.take n).length = n := by rw [List.length_take, h3.length_eq, HE.out.2.2.2.1.length_eq, HLs.out]; omega
        refine ⟨h1, by rw [e1]; exact h2.take, (h3.trans HE.out.2.2.2.1).trans HPs.out, (HM2.out.then HE.out.2.2.2.2.2 (fun t _ e => e.elim .inl (fun e => .inr (HPs.out.mem_iff.1 e)))).then h5 (fun t _ e => e.elim .inl (fun e => .inr (HPs.out.mem_iff.1 (HE.out.2.2.2.1.mem_iff.1 e))))⟩)
      have HL2 : Hid ((L4.take n).length ≤ 900000) := Lib.hid (by rw [List.length_take]; omega)
      clear hz h1 h2 h3 h4 h5
      go_wp2_with fail
      rw [m_pop]
      simp only [Result.andThen, e_pop, Oper.upon]
      refine (pop_c HZ.out.1 HL2.out).mono ?_
      rintro e w9 ⟨rfl, v', hS9, hm9, hv9⟩
      have HX := Lib.hid (And.intro hS9 (And.intro hm9 hv9))
      clear hS9 hm9 hv9
      go_wp2_with fail
      go_ret
      obtain ⟨hS9, hm9, hv9⟩ := HX.out
      obtain ⟨z1, z2, z3, z4⟩ := HZ.out
      have kx := z1.nodes _ x (by rw [List.getElem?_append_right (Nat.le_refl _), Nat.sub_self]; rfl)
      exact ⟨v', _, rfl, hS9, z2, z3, (z4.mono (fun _ _ e => .inr e)).then hm9 (fun _ _ e => .inl e), hv9, _, hm9.at kx (fun e => ne_of_obj kx z1.side (obj_ty (by decide)) e)⟩
    · have hz := last_of (L2 := L3) (n := n) (x := x) (by rw [HE.out.2.2.2.1.length_eq, HLs.out]) (by rw [HE.out.2.2.2.2.1 n (Nat.le_refl _), HXs.out])
      have HZ : Hid (Sd w3 s k v (L3.take n ++ [x]) nd o ∧ HeapOk (lessOf k nd) (L3.take n).length (L3.take n) ∧ (L3.take n ++ [x]).Perm L ∧ Mod (fun t => v.ownBlock = some t ∨ t ∈ L) w1 w3) := Lib.hid (by
        rw [← hz]
        have e1 : (L3.take n).length = n := by rw [List.length_take, HE.out.2.2.2.1.length_eq, HLs.out]; omega
        refine ⟨HE.out.1, by rw [e1]; exact (HE.out.2.1 rfl).take, HE.out.2.2.2.1.trans HPs.out, HM2.out.then HE.out.2.2.2.2.2 (fun t _ e => e.elim .inl (fun e => .inr (HPs.out.mem_iff.1 e)))⟩)
      have HL2 : Hid ((L3.take n).length ≤ 900000) := Lib.hid (by rw [List.length_take]; omega)
      clear hz
      go_wp2_with fail
      rw [m_pop]
      simp only [Result.andThen, e_pop, Oper.upon]
      refine (pop_c HZ.out.1 HL2.out).mono ?_
      rintro e w9 ⟨rfl, v', hS9, hm9, hv9⟩
      have HX := Lib.hid (And.intro hS9 (And.intro hm9 hv9))
      clear hS9 hm9 hv9
      go_wp2_with fail
      go_ret
      obtain ⟨hS9, hm9, hv9⟩ := HX.out
      obtain ⟨z1, z2, z3, z4⟩ := HZ.out
      have kx := z1.nodes _ x (by rw [List.getElem?_append_right (Nat.le_refl _), Nat.sub_self]; rfl)
      exact ⟨v', _, rfl, hS9, z2, z3, (z4.mono (fun _ _ e => .inr e)).then hm9 (fun _ _ e => .inl e), hv9, _, hm9.at kx (fun e => ne_of_obj kx z1.side (obj_ty (by decide)) e)⟩
end
end Go.Proofs.YtdeghpmlhcaedaaDoor
