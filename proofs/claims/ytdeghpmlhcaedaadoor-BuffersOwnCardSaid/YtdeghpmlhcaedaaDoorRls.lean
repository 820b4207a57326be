/- The heap of both sides: List. -/
import Derived.Test.YtdeghpmlhcaedaaDoorRs
namespace Go.Proofs.YtdeghpmlhcaedaaDoor
open Go.RowKit Go.Sort
open Go.ChangeMaps (setBlock)
set_option linter.unusedSimpArgs false
set_option linter.unusedVariables false
attribute [local go_sem ↓] wlRk ldRk stRk eqRk eqRk2 wlSides ldSides stSides
attribute [local go_sem] rkc_size ndc_size cell_blk frozen_blk one_int one_bool one_ptr one_slice one_map Value.cells enter_fn eqMap neMap ix0 ix1 rkc_all1 ndc_rank ndc_id
def ic (i : Int64) : Array Value := #[.int .i64 i.toInt]
theorem intT : ElT Tryd.prog 51 3 ic 1 8 where
  u := Tryd.underlying51
  info := by
    obtain ⟨i0, hi, hz0, hz1, hz2⟩ := info_parts (show (Tryd.prog.info? 3).map (fun i => (i.zero, i.size, i.bytes)) = some (some (.int .i64 0), 1, 8) by kernel_rfl)
    exact ⟨i0, _, hi, hz0, hz1, hz2, rfl⟩
  pos := by omega
  size x := rfl
  one x u hu := by
    simp [ic] at hu
    subst hu
    rfl
theorem cellsOf_ic (l : List Int64) : cellsOf ic l = l.map fun b => .int .i64 b.toInt := by
  unfold cellsOf ic
  induction l with
  | nil => rfl
  | cons b l ih => simpa using ih
theorem own_ints {w : World} {base q n : Nat} {cur : Array Value} {l : List Int64} (hb : base ≤ q) (hg : w.heap[q]? = some (.cells cur 3 (0, 0))) (hs : cur.size = n) (hl : l.length = n) (hn : n ≤ maxLen) (hc : ∀ (i : Nat) x, l[i]? = some x → cur[i]? = some (.int .i64 x.toInt)) :
    SlOwn ic 1 3 w base (.slice (some ⟨q, 0, none⟩) n n) l := by
  subst hl
  refine ⟨?_, .inr ⟨q, l.length, cur, rfl, hb, hg, Nat.le_refl _, hn, by omega, ?_⟩⟩
  · rw [cellsOf_ic]; simp
  · rw [cellsOf_ic, Nat.mul_one]
    apply List.ext_getElem?
    intro i
    rw [List.getElem?_take, List.getElem?_map]
    by_cases hi : i < l.length
    · rw [if_pos hi, List.getElem?_eq_getElem hi]
      have := hc i _ (List.getElem?_eq_getElem hi)
      simpa using this
    · rw [if_neg hi, List.getElem?_eq_none (by omega)]
      rfl
/-- Those that go ahead first. -/
def Srt (l : List Nd) : Prop := l.Pairwise (fun a b => nlt a b = true)
theorem srt_of_falling {nd : Nat → Nd} {ys : List Nat} (h : Falling nd ys) (hn : (ys.map (fun b => (nd b).id)).Nodup) : Srt (ys.map nd) := by
  unfold Srt
  rw [List.pairwise_map, List.pairwise_iff_getElem]
  intro i j hi hj hij
  have h1 := h i j _ _ hij (List.getElem?_eq_getElem hi) (List.getElem?_eq_getElem hj)
  cases h2 : nlt (nd ys[i]) (nd ys[j])
  · have h3 := nlt_total h2 h1
    rw [List.nodup_iff_pairwise_ne, List.pairwise_map, List.pairwise_iff_getElem] at hn
    exact absurd (by rw [h3]) (hn i j hi hj hij)
  · rfl
theorem Ptrs.up {n₀ n₁ : Nat} {W : World} {sv : Value} {zs : List Nat} (hn : n₀ ≤ n₁) : Ptrs n₀ W sv zs → Ptrs n₁ W sv zs
  | .inl e => .inl e
  | .inr ⟨b, off, cap, e, hb, hc⟩ => .inr ⟨b, off, cap, e, Nat.lt_of_lt_of_le hb hn, hc⟩
set_option maxRecDepth 20000 in
set_option maxHeartbeats 3200000 in
theorem list_c {h : Nat} {C : List Nd} {T : Nat → Prop} {w : World} (hA : HAt h C T w) (hC : C.length ≤ 700000) : Calls Tryd.prog 35 #[ptrV h] w fun e w' =>
    ∃ (v : Value) (l : List Nd), e = .returned v ∧ l.Perm C ∧ Srt l ∧ SlOwn ic 1 3 w' w.heap.size v (l.map Nd.id) ∧ Mod (fun _ => False) w w' := by
  have hnd := hA.ids
  obtain ⟨s0, s1, mb, v0, v1, L0, L1, nd, m, H, rfl, hO⟩ := hA
  have kh := H.kh
  have ks := H.d0.side
  simp only [sdc, kn, if_true, if_false, Bool.false_eq_true] at ks
  obtain ⟨a0, c0, rfl, _⟩ := H.d0.own.at ptrT
  have HH := Lib.hid H
  have HN := Lib.hid hnd
  have HL : Hid (L0.length = m.length ∧ m.length ≤ 700000) := Lib.hid ⟨by rw [H.p0.length_eq, List.length_map], by simpa using hC⟩
  clear H hO hnd hC
  go_enter Tryd.func35, Tryd.ntmps35
  go_wp2_with fail
  go_at_call 55
  refine (there_c kh).mono ?_
  rintro e w1 ⟨rfl, rfl⟩
  go_wp2_with fail
  go_at_call 60
  refine (values_c _ _ _ _).mono ?_
  rintro e w2 ⟨rfl, rfl⟩
  have hB0 : Below w1.heap.size w1 (w1.alloc (.cells #[.slice a0 L0.length c0] 114)) := (Below.refl _ w1).alloc (Nat.le_refl _) _
  have hM0 : Mod (fun _ => False) w1 (w1.alloc (.cells #[.slice a0 L0.length c0] 114)) := (Mod.refl _ _).alloc _
  have hsf := sortedFunc_c w1.heap.size (.slice a0 L0.length c0) L0 nd (by have := HL.out; omega) (w1.alloc (.cells #[.slice a0 L0.length c0] 114)) (by simp) (Boxed.new w1 _ _).cell (((Ptrs.own HH.out.d0.own).below hB0).up hB0.size) (fun b hb => ⟨_, _, hM0.at0 (HH.out.d0.cell hb)⟩)
  go_wp2_with fail
  go_at_call 59
  refine hsf.mono ?_
  rintro e w3 ⟨v, ys, rfl, hperm, hfall, hown, hm⟩
  have m3 := hM0.then0 hm
  have hs3 := hm.size
  obtain ⟨a3, c3, rfl, _⟩ := hown.at ptrT
  have HY := Lib.hid (And.intro hperm (And.intro hfall hown))
  have hyl : ys.length = m.length := by rw [hperm.length_eq]; exact HL.out.1
  have hyl2 : ys.length ≤ 700000 := by rw [hyl]; exact HL.out.2
  clear hsf hB0 hM0 hperm hfall hown hm kh ks hyl hs3
  obtain ⟨i0, z, hi, hz, hz1, hz2, hz3⟩ := intT.info
  have hmk : (Instr.makeSlice 51 (.int .i64 (ys.length : Int)) (.int .i64 (ys.length : Int))).run Tryd.prog w3 = .ok (.slice (some ⟨w3.heap.size, 0, none⟩) ys.length ys.length) (w3.alloc (.cells (madeCells z.cells (ys.length * i0.size)) 3)) := by
    have := run_make (P := Tryd.prog) w3 51 3 i0 z Tryd.underlying51 hi hz .i64 .i64 (ys.length : Int) (ys.length : Int) (by omega) (by omega) (by rw [hz2]; omega) (by omega)
    simpa using this
  have hcs : (madeCells z.cells (ys.length * i0.size)).size = ys.length := by rw [size_madeCells, hz1, Nat.mul_one]
  generalize madeCells z.cells (ys.length * i0.size) = cur0 at *
  clear hi hz hz1 hz2 hz3
  go_upto_region 5 with fail
  have kq := heap_alloc_new w3 (.cells cur0 3)
  have m4 := m3.alloc (.cells cur0 3)
  have mq : Mod (fun _ => False) w3 (w3.alloc (.cells cur0 3)) := (Mod.refl _ _).alloc _
  have hq1 : w1.heap.size ≤ w3.heap.size := m3.size
  have HQ := Lib.hid (And.intro hq1 (And.intro m4 (And.intro mq (lt_size kq))))
  clear hmk m4 mq m3
  generalize hwq : w3.alloc (.cells cur0 3) = w4 at *
  generalize hqe : w3.heap.size = q at *
  go_wp2_with fail
  go_loopw [25, 5, 6] (fun s25 _ _ ws => ∃ (i : Nat) (cur : Array Value), i ≤ ys.length ∧ s25 = .int .i64 (i : Int) ∧ ws.heap[q]? = some (.cells cur 3 (0, 0)) ∧ cur.size = ys.length ∧ Hid (∀ (j : Nat) b, j < i → ys[j]? = some b → cur[j]? = some (.int .i64 (nd b).id.toInt)) ∧ Mod (fun x => x = q) w4 ws) (fun s25 _ _ _ => ys.length - (intOf s25).toNat)
  case atStart => exact ⟨0, cur0, by omega, rfl, kq, hcs, Lib.hid (fun j b hj => by omega), Mod.refl _ _⟩
  case round =>
    obtain ⟨i, cur, hi, rfl, kq, hcs, HG, hm⟩ := hrel
    by_cases hlt : i < ys.length
    · obtain ⟨b, hb⟩ : ∃ b, ys[i]? = some b := ⟨_, List.getElem?_eq_getElem hlt⟩
      obtain ⟨g, cap, curp, hv, _, kg, _, hcsp, hcur, _⟩ := own_row HY.out.2.2 (fun e => by rw [e] at hlt; cases hlt)
      simp only [Value.slice.injEq, true_and] at hv
      obtain ⟨rfl, rfl⟩ := hv
      have ci := hcur i b hb
      have hbm : b ∈ L0 := HY.out.1.mem_iff.1 (List.mem_of_getElem? hb)
      have hgq : g ≠ q := by have := lt_size kg; omega
      have k0 := HH.out.d0.cell hbm
      have hbq : b ≠ q := by
        have := lt_size k0
        have := HQ.out.1
        omega
      have kn0 := hm.at (HQ.out.2.1.at0 k0) hbq
      replace kg := hm.at (HQ.out.2.2.1.at0 kg) hgq
      have HB := Lib.hid hb
      clear hcur hb hbm k0 hcsp
      go_upto_region 8 with fail
      have Lkg := lt_size kg
      have Lkn0 := lt_size kn0
      have Lkq := lt_size kq
      refine wp_pass0 (C := fun _ _ _ => False) (κ := fun i => [0, 0, 0, 0, 0, 1, 0, 5].getD i 0) [0, 1, 2, 3, 4, 5, 6, 7] (by kernel_rfl) (by kernel_rfl) (fun _ _ d _ _ h => by cases d <;> first | exact h | exact absurd h (hP _ _ _)) ?_
      (refine TD.val0 (v := ?v1) (by simp only [zA, zB, zC]; rfl) rfl ?hw1 (fun w1 => ?hy1) ?hn1; (case hw1 => rfl); (case hy1 => (go_simp; (try with_reducible rfl))); (try simp only [Act.put, zF, zG, zH]))
      (refine TD.val0 (v := ?v2) (by simp only [zA, zB, zC]; rfl) rfl ?hw2 (fun w1 => ?hy2) ?hn2; (case hw2 => rfl); (case hy2 => (go_simp; (try with_reducible rfl))); (try simp only [Act.put, zF, zG, zH]))
      (refine TD.val0 (v := ?v3) (by simp only [zA, zB, zC]; rfl) rfl ?hw3 (fun w1 => ?hy3) ?hn3; (case hw3 => rfl); (case hy3 => (go_simp; (try with_reducible rfl))); (try simp only [Act.put, zF, zG, zH]))
      (refine TD.val0 (v := ?v4) (by simp only [zA, zB, zC]; rfl) rfl ?hw4 (fun w1 => ?hy4) ?hn4; (case hw4 => rfl); (case hy4 => (go_simp; (try with_reducible rfl))); (try simp only [Act.put, zF, zG, zH]))
      (refine TD.val0 (v := ?v5) (by simp only [zA, zB, zC]; rfl) rfl ?hw5 (fun w1 => ?hy5) ?hn5; (case hw5 => rfl); (case hy5 => (go_simp; (try with_reducible rfl))); (try simp only [Act.put, zF, zG, zH]))
      (refine TD.load (v := ?v6) (p := ?p6) (Mod.refl _ _) (by simp only [zA, zB, zC]; rfl) rfl ?hw6 rfl ?hx6 (fun wq hSq => ?hy6) ?hn6; (case hw6 => rfl); (case hx6 => (simp only [Act.eval, zD, zA, zB, zC, zE]; (try rfl))); (case hy6 => (have kgq := hSq.at kg (fun h => h); have kn0q := hSq.at kn0 (fun h => h); have kqq := hSq.at kq (fun h => h); go_simp; (try with_reducible rfl))); (try simp only [Act.put, zF, zG, zH]))
      (refine TD.val0 (v := ?v7) (by simp only [zA, zB, zC]; rfl) rfl ?hw7 (fun w1 => ?hy7) ?hn7; (case hw7 => rfl); (case hy7 => (go_simp; (try with_reducible rfl))); (try simp only [Act.put, zF, zG, zH]))
      refine TD.eff (by simp only [zA, zB, zC]; rfl) rfl (fun w5 hr => ?_)
      have kg := hr.mod.at kg (fun h => h)
      have kn0 := hr.mod.at kn0 (fun h => h)
      have kq := hr.mod.at kq (fun h => h)
      have m5 := hm.then0 hr.mod
      clear hr
      (refine eff_store (X := ?X9) (Y := ?Y9) (w' := ?w9) (by simp only [zA, zB, zC]; rfl) ?hw9 rfl ?hx9 ?hz9 ?hy9 ?hn9; (case hw9 => rfl); (case hx9 => (simp only [Act.eval, zD, zA, zB, zC, zE]; (try rfl))); (case hz9 => (simp only [Act.eval, zD, zA, zB, zC, zE]; (try rfl))); (case hy9 => (go_simp; (try with_reducible rfl))))
      (first | refine TE.nil_set kq (fun wn kq mS => ?_) | refine TE.nil_setCell kq (fun wn kq mS => ?_))
      have m6 := m5.then mS (fun _ _ e => e)
      clear mS m5 kg kn0
      go_wp2_with fail
      go_roundw
      case rel => exact ⟨i + 1, _, by omega, by go_num, kq, by simpa using hcs, Lib.hid (fun j b' hj hb' => by
        by_cases e : j = i
        · subst e
          rw [HB.out] at hb'
          cases hb'
          rw [Array.getElem?_setIfInBounds_self_of_lt (by omega)]
        · rw [Array.getElem?_setIfInBounds_ne (fun e' => e e'.symm)]
          exact HG.out j b' (by omega) hb'), m6⟩
      case measure => simp [intOf]; omega
    · have hie : i = ys.length := by omega
      go_wp2_with fail
      go_ret
      have hpm : (ys.map nd).Perm (m.map fun p => nd p.2) := by
        have h1 := (HY.out.1.trans HH.out.p0).map nd
        rwa [List.map_map] at h1
      refine ⟨_, ys.map nd, rfl, hpm, srt_of_falling HY.out.2.1 ?_, own_ints HQ.out.1 kq hcs (by simp) (by simp [maxLen]; omega) (fun j x hx => ?_), (HQ.out.2.1).then hm (fun x hx e => by subst e; have := HQ.out.1; omega)⟩
      · have h2 := hpm.map Nd.id
        rw [List.map_map] at h2
        exact h2.nodup_iff.2 HN.out
      · rw [List.getElem?_map, List.getElem?_map] at hx
        cases hy : ys[j]? with
        | none => rw [hy] at hx; cases hx
        | some b =>
          rw [hy] at hx
          cases hx
          exact HG.out j b (by have := (List.getElem?_eq_some_iff.1 hy).1; omega) hy
end Go.Proofs.YtdeghpmlhcaedaaDoor
