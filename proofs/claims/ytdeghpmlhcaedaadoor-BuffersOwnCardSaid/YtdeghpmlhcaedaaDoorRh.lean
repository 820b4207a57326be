/- The heap of both sides: what it is, New, there. -/
import Derived.Test.YtdeghpmlhcaedaaDoorHr
namespace Go.Proofs.YtdeghpmlhcaedaaDoor
open Go.RowKit Go.Sort
open Go.ChangeMaps (setBlock)
set_option linter.unusedSimpArgs false
set_option linter.unusedVariables false
attribute [local go_sem ↓] wlRk ldRk stRk eqRk eqRk2
attribute [local go_sem] rkc_size ndc_size cell_blk frozen_blk one_int one_bool one_ptr one_slice one_map Value.cells enter_fn
def idv (i : Int64) : Value := .int .i64 i.toInt
theorem idT : KeyT Tryd.prog 3 idv where
  law := Maps.int_keyed Tryd.underlying3
  lit k := ⟨.int .i64 k.toInt, Maps.keyOf_int_mk Tryd.underlying3 (by
    have h1 := k.toInt_lt
    have h2 := k.le_toInt
    simp [Lit.wf, IntKind.min, IntKind.max, IntKind.bits, IntKind.signed]
    omega)⟩
  inj a b h := by
    simp only [idv, Value.int.injEq, true_and] at h
    exact Int64.toInt_inj.1 h
/-- The heap at h: its sides, its map, what they hold. -/
structure Hp (w : World) (h s0 s1 mb : Nat) (v0 v1 : Value) (L0 L1 : List Nat) (nd : Nat → Nd) (m : List (Int64 × Nat)) : Prop where
  kh : w.heap[h]? = some (.cells #[ptrV s0, ptrV s1, .map (some mb)] 112 (0, 0))
  km : ∃ es c, w.heap[mb]? = some (.map es c) ∧ MapIs idv ptrV es c m
  d0 : Sd w s0 false v0 L0 nd (fun b => (L1.idxOf b : Int))
  d1 : Sd w s1 true v1 L1 nd (fun b => (L0.idxOf b : Int))
  ok0 : HeapOk (lessOf false nd) L0.length L0
  ok1 : HeapOk (lessOf true nd) L1.length L1
  p0 : L0.Perm (m.map Prod.snd)
  p1 : L1.Perm (m.map Prod.snd)
  ids : ∀ i b, (i, b) ∈ m → (nd b).id = i
  ap : ∀ g, v0.ownBlock = some g → v1.ownBlock ≠ some g
  ss : s0 ≠ s1
/-- The blocks of it. -/
def Hown (h s0 s1 mb : Nat) (v0 v1 : Value) (L0 : List Nat) (i : Nat) : Prop := i = h ∨ i = s0 ∨ i = s1 ∨ i = mb ∨ v0.ownBlock = some i ∨ v1.ownBlock = some i ∨ i ∈ L0
/-- A heap at h, in blocks of T, that holds C. -/
def HAt (h : Nat) (C : List Nd) (T : Nat → Prop) (w : World) : Prop := ∃ s0 s1 mb v0 v1 L0 L1 nd m, Hp w h s0 s1 mb v0 v1 L0 L1 nd m ∧ C = m.map (fun p => nd p.2) ∧ ∀ i, Hown h s0 s1 mb v0 v1 L0 i → T i
theorem Hp.mod {w w' : World} {h s0 s1 mb : Nat} {v0 v1 : Value} {L0 L1 : List Nat} {nd : Nat → Nd} {m : List (Int64 × Nat)} {S : Nat → Prop} (H : Hp w h s0 s1 mb v0 v1 L0 L1 nd m) (hm : Mod S w w') (hS : ∀ i, Hown h s0 s1 mb v0 v1 L0 i → ¬ S i) : Hp w' h s0 s1 mb v0 v1 L0 L1 nd m := by
  obtain ⟨es, c, kb, M⟩ := H.km
  have hL : ∀ b, b ∈ L1 → b ∈ L0 := fun b hb => H.p0.mem_iff.2 (H.p1.mem_iff.1 hb)
  exact ⟨hm.at H.kh (hS _ (.inl rfl)), ⟨es, c, hm.at kb (hS _ (.inr (.inr (.inr (.inl rfl))))), M⟩,
    H.d0.mod hm (hS _ (.inr (.inl rfl))) (fun g hg => hS _ (.inr (.inr (.inr (.inr (.inl hg)))))) (fun b hb => hS _ (.inr (.inr (.inr (.inr (.inr (.inr hb))))))),
    H.d1.mod hm (hS _ (.inr (.inr (.inl rfl)))) (fun g hg => hS _ (.inr (.inr (.inr (.inr (.inr (.inl hg))))))) (fun b hb => hS _ (.inr (.inr (.inr (.inr (.inr (.inr (hL b hb)))))))), H.ok0, H.ok1, H.p0, H.p1, H.ids, H.ap, H.ss⟩
theorem HAt.good (h : Nat) (C : List Nd) : Good (HAt h C) where
  cl := by
    rintro T w w' ⟨s0, s1, mb, v0, v1, L0, L1, nd, m, H, hC, hT⟩ hm
    exact ⟨s0, s1, mb, v0, v1, L0, L1, nd, m, H.mod hm (fun i hi hn => hn (hT i hi)), hC, hT⟩
  gr := by
    rintro T T' w hT ⟨s0, s1, mb, v0, v1, L0, L1, nd, m, H, hC, hO⟩
    exact ⟨s0, s1, mb, v0, v1, L0, L1, nd, m, H, hC, fun i hi => hT i (hO i hi)⟩
theorem bld0 (w : World) : (Instr.build 116 #[(0, .int .i64 0), (1, .func (.func 45) #[] #[])]).run Tryd.prog w = .ok (.agg (sdc false (.slice none 0 0))) w := by kernel_rfl
theorem bld1 (w : World) : (Instr.build 116 #[(0, .int .i64 1), (1, .func (.func 46) #[] #[])]).run Tryd.prog w = .ok (.agg (sdc true (.slice none 0 0))) w := by kernel_rfl
theorem eqMap (w : World) (r : Option Nat) : (binOp .eql 108 (.map r) (.map none)).run Tryd.prog w = .ok (.bool r.isNone) w := run_eql_map_nil w _ _ _ _ Tryd.underlying108
theorem neMap (w : World) (r : Option Nat) : (binOp .neq 108 (.map r) (.map none)).run Tryd.prog w = .ok (.bool !r.isNone) w := run_neq_map_nil w _ _ _ _ Tryd.underlying108
attribute [local go_sem] eqMap neMap
set_option maxRecDepth 20000 in
theorem there_c {w : World} {h b : Nat} {x y : Value} (kh : w.heap[h]? = some (.cells #[x, y, .map (some b)] 112 (0, 0))) : Calls Tryd.prog 55 #[ptrV h] w fun e w' => e = .returned (.bool true) ∧ w' = w := by
  go_enter Tryd.func55, Tryd.ntmps55
  go_wp2_with fail
  go_ret
  exact ⟨rfl, rfl⟩
set_option maxRecDepth 20000 in
theorem there_void {w : World} {h : Nat} {x y : Value} (kh : w.heap[h]? = some (.cells #[x, y, .map none] 112 (0, 0))) : Calls Tryd.prog 55 #[ptrV h] w fun e w' => e = .returned (.bool false) ∧ w' = w := by
  go_enter Tryd.func55, Tryd.ntmps55
  go_wp2_with fail
  go_ret
  exact ⟨rfl, rfl⟩
theorem there_nil (w : World) : Calls Tryd.prog 55 #[.pointer none] w fun e w' => e = .returned (.bool false) ∧ w' = w := by
  go_enter Tryd.func55, Tryd.ntmps55
  go_wp2_with fail
  go_ret
  exact ⟨rfl, rfl⟩
set_option maxRecDepth 20000 in
set_option maxHeartbeats 1600000 in
theorem new_c (w : World) : Calls Tryd.prog 25 #[] w fun e w' => ∃ h, e = .returned (ptrV h) ∧ ∃ T, HAt h [] T w' ∧ Mod (fun _ => False) w w' ∧ (∀ i, T i → w.heap.size ≤ i ∧ i < w'.heap.size) := by
  have hmm := @run_makeMap Tryd.prog
  have hb0 := bld0
  have hb1 := bld1
  go_enter Tryd.func25, Tryd.ntmps25
  go_upto_region 2 with fail
  obtain ⟨h1, h2⟩ := fresh2 w (.map #[] 0) (.cells #[.pointer none, .pointer none, .map (some w.heap.size)] 112)
  have m0 : Mod (fun _ => False) w ((w.alloc (.map #[] 0)).alloc (.cells #[.pointer none, .pointer none, .map (some w.heap.size)] 112)) := ((Mod.refl _ _).alloc _).alloc _
  have hsz := m0.size
  have hw1 := lt_size h1
  have hw2 := lt_size h2
  generalize (w.alloc (.map #[] 0)).alloc (.cells #[.pointer none, .pointer none, .map (some w.heap.size)] 112) = w0 at *
  generalize hb : w.heap.size = b at *
  have Lh1 := lt_size h1
  have Lh2 := lt_size h2
  refine wp_pass0 (C := fun _ _ _ => False) (κ := fun i => [0, 0, 3, 0, 0, 0, 5].getD i 0) [0, 1, 2, 3, 4, 5, 6] (by kernel_rfl) (by kernel_rfl) (fun _ _ d _ _ h => by cases d <;> first | exact h | exact absurd h (hP _ _ _)) ?_
  (refine TD.val0 (v := ?v1) (by simp only [zA, zB, zC]; rfl) rfl ?hw1 (fun w1 => ?hy1) ?hn1; (case hw1 => rfl); (case hy1 => (go_simp; (try with_reducible rfl))); (try simp only [Act.put, zF, zG, zH]))
  (refine TD.build (v := ?v2) (ps := ?p2) (by simp only [zA, zB, zC]; rfl) rfl ?hw2 rfl ?hx2 (fun w1 => ?hy2) ?hn2; (case hw2 => rfl); (case hx2 => (simp only [List.map_toArray, List.map_cons, List.map_nil, Act.eval, zD, zA, zB, zC, zE]; (try rfl))); (case hy2 => (rw [hb0]; (try with_reducible rfl))); (try simp only [Act.put, zF, zG, zH]))
  (refine TD.box (v := ?v3) (by simp only [zA, zB, zC]; rfl) rfl ?hw3 rfl rfl ?hx3 (fun p7 hp7 => ?hn3); (case hw3 => rfl); (case hx3 => (simp only [Act.eval, zD, zA, zB, zC, zE]; (try rfl))); (try simp only [Act.put, zF, zG, zH]))
  (refine TD.val0 (v := ?v4) (by simp only [zA, zB, zC]; rfl) rfl ?hw4 (fun w1 => ?hy4) ?hn4; (case hw4 => rfl); (case hy4 => (go_simp; (try with_reducible rfl))); (try simp only [Act.put, zF, zG, zH]))
  (refine TD.val0 (v := ?v5) (by simp only [zA, zB, zC]; rfl) rfl ?hw5 (fun w1 => ?hy5) ?hn5; (case hw5 => rfl); (case hy5 => (go_simp; (try with_reducible rfl))); (try simp only [Act.put, zF, zG, zH]))
  (refine TD.val0 (v := ?v6) (by simp only [zA, zB, zC]; rfl) rfl ?hw6 (fun w1 => ?hy6) ?hn6; (case hw6 => rfl); (case hy6 => (go_simp; (try with_reducible rfl))); (try simp only [Act.put, zF, zG, zH]))
  refine TD.eff (by simp only [zA, zB, zC]; rfl) rfl (fun wE hr => ?_)
  have h1 := hr.mod.at0 h1
  have h2 := hr.mod.at0 h2
  have mE := hr.mod
  (refine eff_store (X := ?X7) (Y := ?Y7) (w' := ?w7) (by simp only [zA, zB, zC]; rfl) ?hw7 rfl ?hx7 ?hz7 ?hy7 ?hn7; (case hw7 => rfl); (case hx7 => (simp only [Act.eval, zD, zA, zB, zC, zE]; (try rfl))); (case hz7 => (simp only [Act.eval, zD, zA, zB, zC, zE]; (try rfl))); (case hy7 => (go_simp; (try with_reducible rfl))))
  (first | refine TE.nil_set h2 (fun w1 h2 mS => ?_) | refine TE.nil_setCell h2 (fun w1 h2 mS => ?_))
  (try simp only [Array.setIfInBounds, zF, zG, zH] at h2)
  have h1 := mS.at_ne h1 (by omega)
  obtain ⟨g7, kp7⟩ := hr.box p7 _ (Bx.set_same _ _ _)
  replace kp7 := mS.at_ne kp7 (by omega)
  have hr1 : w1.heap[b + 1]? = some (.cells #[.pointer (some ⟨p7, 0, none⟩), .pointer none, .map (some b)] 112 (0, 0)) := h2
  have m1 : Mod (fun i => i = b + 1) w w1 := ((m0.then0 mE).mono (fun _ _ h => h.elim)).then mS (fun _ _ h => h)
  have s01 := mE.size
  have s12 := mS.size
  clear h2 hr mE mS hb0
  go_upto_region 3 with fail
  have Lh1 := lt_size h1
  have Lkp7 := lt_size kp7
  have Lhr1 := lt_size hr1
  refine wp_pass0 (C := fun _ _ _ => False) (κ := fun i => [0, 0, 3, 0, 0, 0, 5].getD i 0) [0, 1, 2, 3, 4, 5, 6] (by kernel_rfl) (by kernel_rfl) (fun _ _ d _ _ h => by cases d <;> first | exact h | exact absurd h (hP _ _ _)) ?_
  (refine TD.val0 (v := ?v8) (by simp only [zA, zB, zC]; rfl) rfl ?hw8 (fun w1 => ?hy8) ?hn8; (case hw8 => rfl); (case hy8 => (go_simp; (try with_reducible rfl))); (try simp only [Act.put, zF, zG, zH]))
  (refine TD.build (v := ?v9) (ps := ?p9) (by simp only [zA, zB, zC]; rfl) rfl ?hw9 rfl ?hx9 (fun w1 => ?hy9) ?hn9; (case hw9 => rfl); (case hx9 => (simp only [List.map_toArray, List.map_cons, List.map_nil, Act.eval, zD, zA, zB, zC, zE]; (try rfl))); (case hy9 => (rw [hb1]; (try with_reducible rfl))); (try simp only [Act.put, zF, zG, zH]))
  (refine TD.box (v := ?v10) (by simp only [zA, zB, zC]; rfl) rfl ?hw10 rfl rfl ?hx10 (fun p13 hp13 => ?hn10); (case hw10 => rfl); (case hx10 => (simp only [Act.eval, zD, zA, zB, zC, zE]; (try rfl))); (try simp only [Act.put, zF, zG, zH]))
  (refine TD.val0 (v := ?v11) (by simp only [zA, zB, zC]; rfl) rfl ?hw11 (fun w1 => ?hy11) ?hn11; (case hw11 => rfl); (case hy11 => (go_simp; (try with_reducible rfl))); (try simp only [Act.put, zF, zG, zH]))
  (refine TD.val0 (v := ?v12) (by simp only [zA, zB, zC]; rfl) rfl ?hw12 (fun w1 => ?hy12) ?hn12; (case hw12 => rfl); (case hy12 => (go_simp; (try with_reducible rfl))); (try simp only [Act.put, zF, zG, zH]))
  (refine TD.val0 (v := ?v13) (by simp only [zA, zB, zC]; rfl) rfl ?hw13 (fun w1 => ?hy13) ?hn13; (case hw13 => rfl); (case hy13 => (go_simp; (try with_reducible rfl))); (try simp only [Act.put, zF, zG, zH]))
  refine TD.eff (by simp only [zA, zB, zC]; rfl) rfl (fun wE hr => ?_)
  have h1 := hr.mod.at0 h1
  have kp7 := hr.mod.at0 kp7
  have hr1 := hr.mod.at0 hr1
  have mE := hr.mod
  (refine eff_store (X := ?X14) (Y := ?Y14) (w' := ?w14) (by simp only [zA, zB, zC]; rfl) ?hw14 rfl ?hx14 ?hz14 ?hy14 ?hn14; (case hw14 => rfl); (case hx14 => (simp only [Act.eval, zD, zA, zB, zC, zE]; (try rfl))); (case hz14 => (simp only [Act.eval, zD, zA, zB, zC, zE]; (try rfl))); (case hy14 => (go_simp; (try with_reducible rfl))))
  (first | refine TE.nil_set hr1 (fun w2 hr1 mS => ?_) | refine TE.nil_setCell hr1 (fun w2 hr1 mS => ?_))
  (try simp only [Array.setIfInBounds, zF, zG, zH] at hr1)
  have h1 := mS.at_ne h1 (by omega)
  have kp7 := mS.at_ne kp7 (by omega)
  obtain ⟨g13, kp13⟩ := hr.box p13 _ (Bx.set_same _ _ _)
  replace kp13 := mS.at_ne kp13 (by omega)
  have m2 : Mod (fun i => i = b + 1) w w2 := (m1.then0 mE).then mS (fun _ _ h => h)
  have s23 := mE.size
  have s34 := mS.size
  have kh : w2.heap[b + 1]? = some (.cells #[ptrV p7, ptrV p13, .map (some b)] 112 (0, 0)) := hr1
  have HKH := Lib.hid kh
  have H7 := Lib.hid kp7
  have H13 := Lib.hid kp13
  clear hr mE mS hb1 hr1 kh kp7 kp13
  go_wp2_with fail
  go_ret
  have l13 := lt_size H13.out
  refine ⟨b + 1, rfl, fun i => b ≤ i ∧ i < w2.heap.size, ⟨p7, p13, b, .slice none 0 0, .slice none 0 0, [], [], fun _ => ⟨rk0, 0⟩, [], ⟨HKH.out, ⟨_, _, h1, MapIs.empty idv ptrV⟩, ⟨H7.out, SlOwn.nil _ _, fun i b hb => (by cases hb)⟩, ⟨H13.out, SlOwn.nil _ _, fun i b hb => (by cases hb)⟩, fun c _ hc => (by cases hc), fun c _ hc => (by cases hc), .refl _, .refl _, fun i b hb => (by cases hb), fun g hg => (by cases hg), (by omega)⟩, rfl, fun i hi => ?_⟩, m2.mono (fun i hi e => by omega), fun i hi => hi⟩
  rcases hi with e | e | e | e | e | e | e
  · subst e; omega
  · subst e; omega
  · subst e; omega
  · subst e; omega
  · cases e
  · cases e
  · cases e
end Go.Proofs.YtdeghpmlhcaedaaDoor
