/- One side of a heap: Len, Less, Swap, Push, Pop. -/
import Derived.Test.YtdeghpmlhcaedaaDoorAh
namespace Go.Proofs.YtdeghpmlhcaedaaDoor
open Go.RowKit Go.Sort
open Go.ChangeMaps (setBlock)
set_option linter.unusedSimpArgs false
set_option linter.unusedVariables false
attribute [local go_sem ↓] wlRk ldRk stRk eqRk eqRk2
attribute [local go_sem] rkc_size ndc_size cell_blk frozen_blk one_int one_bool one_ptr one_slice one_map Value.cells enter_fn
def kn (k : Bool) : Nat := if k then 1 else 0
abbrev sdc (k : Bool) (v : Value) : Array Value := #[.int .i64 (kn k : Int), .func (.func (fn k)) #[] #[], v]
/-- A side lies at s: its slice v holds the nodes L, each of which knows where it is. -/
structure Sd (w : World) (s : Nat) (k : Bool) (v : Value) (L : List Nat) (nd : Nat → Nd) (o : Nat → Int) : Prop where
  side : w.heap[s]? = some (.cells (sdc k v) 116 (0, 0))
  own : SlOwn pc 1 117 w 0 v L
  nodes : ∀ (i b : Nat), L[i]? = some b → w.heap[b]? = some (.cells (ndc k (nd b) (i : Int) (o b)) 131 (0, 0))
section
variable {w w' : World} {s : Nat} {k : Bool} {v : Value} {L : List Nat} {nd : Nat → Nd} {o : Nat → Int}
theorem own_block {base : Nat} (h : SlOwn pc 1 117 w base v L) {g : Nat} (hg : v.ownBlock = some g) : ∃ cur, w.heap[g]? = some (.cells cur 117 (0, 0)) := by
  rcases h.2 with ⟨rfl, _⟩ | ⟨g', cap, cur, rfl, _, hg', _⟩
  · cases hg
  · cases hg
    exact ⟨cur, hg'⟩
theorem obj_ty {c c' : Array Value} {T T' : TypeId} (h : T ≠ T') : Obj.cells c T (0, 0) ≠ .cells c' T' (0, 0) := by
  intro e
  cases e
  exact h rfl
theorem Sd.mod {S : Nat → Prop} (h : Sd w s k v L nd o) (hm : Mod S w w') (h1 : ¬ S s) (h2 : ∀ g, v.ownBlock = some g → ¬ S g) (h3 : ∀ b ∈ L, ¬ S b) : Sd w' s k v L nd o :=
  ⟨hm.at h.side h1, h.own.mod hm h2, fun i b hb => hm.at (h.nodes i b hb) (h3 b (List.mem_of_getElem? hb))⟩
theorem Sd.mod0 (h : Sd w s k v L nd o) (hm : Mod (fun _ => False) w w') : Sd w' s k v L nd o := h.mod hm (fun h => h) (fun _ _ h => h) (fun _ _ h => h)
theorem Sd.nodup (h : Sd w s k v L nd o) : L.Nodup := by
  rw [List.nodup_iff_pairwise_ne, List.pairwise_iff_getElem]
  intro i j hi hj hij e
  have h1 := h.nodes i _ (List.getElem?_eq_getElem hi)
  have h2 := h.nodes j _ (List.getElem?_eq_getElem hj)
  rw [e, h2] at h1
  cases k <;> simp [ndc] at h1 <;> omega
theorem Sd.len (h : Sd w s k v L nd o) : L.length ≤ maxLen := by
  obtain ⟨a, c, _, _, _, hl⟩ := h.own.at ptrT
  exact hl
set_option maxHeartbeats 1600000 in
theorem len_c (h : Sd w s k v L nd o) : Calls Tryd.prog 117 #[ptrV s] w fun e w' => e = .returned (.int .i64 (L.length : Int)) ∧ w' = w := by
  obtain ⟨a, c, rfl, _, _, hl⟩ := h.own.at ptrT
  have ks := h.side
  clear h
  go_enter Tryd.func117, Tryd.ntmps117
  go_wp2_with fail
  go_ret
  exact ⟨rfl, rfl⟩
set_option maxHeartbeats 1600000 in
theorem less_c (h : Sd w s k v L nd o) {i j a b : Nat} (ha : L[i]? = some a) (hb : L[j]? = some b) : Calls Tryd.prog 118 #[ptrV s, .int .i64 (i : Int), .int .i64 (j : Int)] w fun e w' => e = .returned (.bool (flt k (nd a) (nd b))) ∧ Mod (fun _ => False) w w' := by
  have hi := (List.getElem?_eq_some_iff.1 ha).1
  have hj := (List.getElem?_eq_some_iff.1 hb).1
  obtain ⟨g, cap, cur, rfl, _, kg, hcap, hcs, hcur, _⟩ := own_row h.own (fun e => by rw [e] at hi; cases hi)
  have ks := h.side
  have ka := h.nodes i a ha
  have kb := h.nodes j b hb
  have ci := hcur i a ha
  have cj := hcur j b hb
  have hcall := fun wq (hSq : Mod (fun _ => False) w wq) => first_c k a b k (nd a) (nd b) i (o a) j (o b) wq (hSq.at0 ka) (hSq.at0 kb)
  have HC := Lib.hid hcall
  clear h hcur hcall ka kb ha hb
  go_enter Tryd.func118, Tryd.ntmps118
  go_upto_region 1 with fail
  have Lks := lt_size ks
  have Lkg := lt_size kg
  refine wp_pass (C := fun _ _ v => v = .bool (flt k (nd a) (nd b))) (κ := fun i => [0, 0, 0, 1, 0, 0, 0, 1, 0, 0, 1, 0, 0, 0, 1, 0, 0, 1, 2, 0].getD i 0) [0, 1, 2, 3, 4, 5, 6, 7, 8, 9, 10, 11, 12, 13, 14, 15, 16, 17, 18, 19] (by kernel_rfl) (by kernel_rfl) (fun _ _ d _ _ h => by cases d <;> first | exact h | exact absurd h (hP _ _ _)) ?_
  (refine TD.val0 (v := ?v1) (by simp only [zA, zB, zC]; rfl) rfl ?hw1 (fun w1 => ?hy1) ?hn1; (case hw1 => rfl); (case hy1 => (go_simp; (try with_reducible rfl))); (try simp only [Act.put, zF, zG, zH]))
  (refine TD.val0 (v := ?v2) (by simp only [zA, zB, zC]; rfl) rfl ?hw2 (fun w1 => ?hy2) ?hn2; (case hw2 => rfl); (case hy2 => (go_simp; (try with_reducible rfl))); (try simp only [Act.put, zF, zG, zH]))
  (refine TD.val0 (v := ?v3) (by simp only [zA, zB, zC]; rfl) rfl ?hw3 (fun w1 => ?hy3) ?hn3; (case hw3 => rfl); (case hy3 => (go_simp; (try with_reducible rfl))); (try simp only [Act.put, zF, zG, zH]))
  (refine TD.load (v := ?v4) (p := ?p4) (Mod.refl _ _) (by simp only [zA, zB, zC]; rfl) rfl ?hw4 rfl ?hx4 (fun wq hSq => ?hy4) ?hn4; (case hw4 => rfl); (case hx4 => (simp only [Act.eval, zD, zA, zB, zC, zE]; (try rfl))); (case hy4 => (have ksq := hSq.at ks (fun h => h); have kgq := hSq.at kg (fun h => h); go_simp; (try with_reducible rfl))); (try simp only [Act.put, zF, zG, zH]))
  (refine TD.val0 (v := ?v5) (by simp only [zA, zB, zC]; rfl) rfl ?hw5 (fun w1 => ?hy5) ?hn5; (case hw5 => rfl); (case hy5 => (go_simp; (try with_reducible rfl))); (try simp only [Act.put, zF, zG, zH]))
  (refine TD.val0 (v := ?v6) (by simp only [zA, zB, zC]; rfl) rfl ?hw6 (fun w1 => ?hy6) ?hn6; (case hw6 => rfl); (case hy6 => (go_simp; (try with_reducible rfl))); (try simp only [Act.put, zF, zG, zH]))
  (refine TD.val0 (v := ?v7) (by simp only [zA, zB, zC]; rfl) rfl ?hw7 (fun w1 => ?hy7) ?hn7; (case hw7 => rfl); (case hy7 => (go_simp; (try with_reducible rfl))); (try simp only [Act.put, zF, zG, zH]))
  (refine TD.load (v := ?v8) (p := ?p8) (Mod.refl _ _) (by simp only [zA, zB, zC]; rfl) rfl ?hw8 rfl ?hx8 (fun wq hSq => ?hy8) ?hn8; (case hw8 => rfl); (case hx8 => (simp only [Act.eval, zD, zA, zB, zC, zE]; (try rfl))); (case hy8 => (have ksq := hSq.at ks (fun h => h); have kgq := hSq.at kg (fun h => h); go_simp; (try with_reducible rfl))); (try simp only [Act.put, zF, zG, zH]))
  (refine TD.val0 (v := ?v9) (by simp only [zA, zB, zC]; rfl) rfl ?hw9 (fun w1 => ?hy9) ?hn9; (case hw9 => rfl); (case hy9 => (go_simp; (try with_reducible rfl))); (try simp only [Act.put, zF, zG, zH]))
  (refine TD.val0 (v := ?v10) (by simp only [zA, zB, zC]; rfl) rfl ?hw10 (fun w1 => ?hy10) ?hn10; (case hw10 => rfl); (case hy10 => (go_simp; (try with_reducible rfl))); (try simp only [Act.put, zF, zG, zH]))
  (refine TD.load (v := ?v11) (p := ?p11) (Mod.refl _ _) (by simp only [zA, zB, zC]; rfl) rfl ?hw11 rfl ?hx11 (fun wq hSq => ?hy11) ?hn11; (case hw11 => rfl); (case hx11 => (simp only [Act.eval, zD, zA, zB, zC, zE]; (try rfl))); (case hy11 => (have ksq := hSq.at ks (fun h => h); have kgq := hSq.at kg (fun h => h); go_simp; (try with_reducible rfl))); (try simp only [Act.put, zF, zG, zH]))
  (refine TD.val0 (v := ?v12) (by simp only [zA, zB, zC]; rfl) rfl ?hw12 (fun w1 => ?hy12) ?hn12; (case hw12 => rfl); (case hy12 => (go_simp; (try with_reducible rfl))); (try simp only [Act.put, zF, zG, zH]))
  (refine TD.val0 (v := ?v13) (by simp only [zA, zB, zC]; rfl) rfl ?hw13 (fun w1 => ?hy13) ?hn13; (case hw13 => rfl); (case hy13 => (go_simp; (try with_reducible rfl))); (try simp only [Act.put, zF, zG, zH]))
  (refine TD.val0 (v := ?v14) (by simp only [zA, zB, zC]; rfl) rfl ?hw14 (fun w1 => ?hy14) ?hn14; (case hw14 => rfl); (case hy14 => (go_simp; (try with_reducible rfl))); (try simp only [Act.put, zF, zG, zH]))
  (refine TD.load (v := ?v15) (p := ?p15) (Mod.refl _ _) (by simp only [zA, zB, zC]; rfl) rfl ?hw15 rfl ?hx15 (fun wq hSq => ?hy15) ?hn15; (case hw15 => rfl); (case hx15 => (simp only [Act.eval, zD, zA, zB, zC, zE]; (try rfl))); (case hy15 => (have ksq := hSq.at ks (fun h => h); have kgq := hSq.at kg (fun h => h); go_simp; (try with_reducible rfl))); (try simp only [Act.put, zF, zG, zH]))
  (refine TD.val0 (v := ?v16) (by simp only [zA, zB, zC]; rfl) rfl ?hw16 (fun w1 => ?hy16) ?hn16; (case hw16 => rfl); (case hy16 => (go_simp; (try with_reducible rfl))); (try simp only [Act.put, zF, zG, zH]))
  (refine TD.val0 (v := ?v17) (by simp only [zA, zB, zC]; rfl) rfl ?hw17 (fun w1 => ?hy17) ?hn17; (case hw17 => rfl); (case hy17 => (go_simp; (try with_reducible rfl))); (try simp only [Act.put, zF, zG, zH]))
  (refine TD.load (v := ?v18) (p := ?p18) (Mod.refl _ _) (by simp only [zA, zB, zC]; rfl) rfl ?hw18 rfl ?hx18 (fun wq hSq => ?hy18) ?hn18; (case hw18 => rfl); (case hx18 => (simp only [Act.eval, zD, zA, zB, zC, zE]; (try rfl))); (case hy18 => (have ksq := hSq.at ks (fun h => h); have kgq := hSq.at kg (fun h => h); go_simp; (try with_reducible rfl))); (try simp only [Act.put, zF, zG, zH]))
  (refine TD.call (f := ?f19) (args := ?r19) (Mod.refl _ _) (by simp only [zA, zB, zC]; rfl) rfl ?hw19 (fun w1 => ?hy19) ?hsp19 ?hn19; (case hw19 => rfl); (case hy19 => (go_simp; (first | with_reducible rfl | (constructor <;> with_reducible rfl)))); (case hsp19 => (intro wq hSq; have ksq := hSq.at ks (fun h => h); have kgq := hSq.at kg (fun h => h); exact (HC.out wq hSq).mono (fun e w' h => ⟨_, h.1, rfl, h.2⟩))); rintro _ rfl; (try simp only [Act.put, zF, zG, zH]))
  (refine TD.val0 (v := ?v20) (by simp only [zA, zB, zC]; rfl) rfl ?hw20 (fun w1 => ?hy20) ?hn20; (case hw20 => rfl); (case hy20 => (go_simp; (try with_reducible rfl))); (try simp only [Act.put, zF, zG, zH]))
  refine TD.nil (fun w2 hr => ?_)
  have ks := hr.mod.at ks (fun h => h)
  have kg := hr.mod.at kg (fun h => h)
  have m2 := hr.mod
  go_wp2_with fail
  go_ret
  exact ⟨rfl, m2⟩
end
section
variable {P : Program} {ops : Array Oper} {Q : Exit → Act → World → Prop} {κ : Nat → Nat}
theorem TE.mid_set {r : List Nat} {a : Act} {w : World} {p : Nat} {o o' : Obj} (hb : w.heap[p]? = some o) (h : ∀ w', w'.heap[p]? = some o' → Mod (fun i => i = p) w w' → TE P ops Q κ r a w') : TE P ops Q κ r a (setBlock w p o') :=
  h _ (heap_setBlock w _ (lt_size hb)) (mod_set w p o')
theorem TE.mid_setCell {r : List Nat} {a : Act} {w : World} {p i : Nat} {cs : Array Value} {U : TypeId} {fr : Nat × Nat} {v : Value} (hb : w.heap[p]? = some (.cells cs U fr))
    (h : ∀ w', w'.heap[p]? = some (.cells (cs.setIfInBounds i v) U fr) → Mod (fun i => i = p) w w' → TE P ops Q κ r a w') : TE P ops Q κ r a (w.setCell ⟨p, i, none⟩ v) := by
  rw [setCell_blk hb]
  exact TE.mid_set hb h
end
section
variable {w w' : World} {s : Nat} {k : Bool} {v : Value} {L : List Nat} {nd : Nat → Nd} {o : Nat → Int}
set_option maxHeartbeats 3200000 in
theorem swap_c (h : Sd w s k v L nd o) {i j : Nat} (hi : i < L.length) (hj : j < L.length) (hij : i ≠ j) : Calls Tryd.prog 121 #[ptrV s, .int .i64 (i : Int), .int .i64 (j : Int)] w fun e w' =>
    e = .returned (.tuple #[]) ∧ Sd w' s k v (swapL L i j) nd o ∧ Mod (fun x => v.ownBlock = some x ∨ x ∈ L) w w' := by
  have H := Lib.hid h
  obtain ⟨a, ha⟩ : ∃ a, L[i]? = some a := ⟨_, List.getElem?_eq_getElem hi⟩
  obtain ⟨b, hb⟩ : ∃ b, L[j]? = some b := ⟨_, List.getElem?_eq_getElem hj⟩
  obtain ⟨g, cap, cur, rfl, _, kg, hcap, hcs, hcur, hback⟩ := own_row h.own (fun e => by rw [e] at hi; cases hi)
  have hab : a ≠ b := fun e => hij (by
    subst e
    exact (List.getElem?_inj hi h.nodup).1 (by rw [ha, hb]))
  have ks := h.side
  have ka := h.nodes i a ha
  have kb := h.nodes j b hb
  have hsg : s ≠ g := ne_of_obj ks kg (obj_ty (by decide))
  have hag : a ≠ g := ne_of_obj ka kg (obj_ty (by decide))
  have hbg : b ≠ g := ne_of_obj kb kg (obj_ty (by decide))
  have has : a ≠ s := ne_of_obj ka ks (obj_ty (by decide))
  have hbs : b ≠ s := ne_of_obj kb ks (obj_ty (by decide))
  have ci := hcur i a ha
  have cj := hcur j b hb
  have HA := Lib.hid ha
  have HB := Lib.hid hb
  have HCUR := Lib.hid hcur
  have HBACK := Lib.hid hback
  have KG0 := Lib.hid kg
  clear h hcur hback ha hb
  go_enter Tryd.func121, Tryd.ntmps121
  have cj2 : (cur.setIfInBounds i (ptrV b))[j]? = some (ptrV b) := by rw [Array.getElem?_setIfInBounds_ne hij, cj]
  go_upto_region 0 with fail
  have Lks := lt_size ks
  have Lkg := lt_size kg
  have Lka := lt_size ka
  have Lkb := lt_size kb
  refine wp_pass (C := fun _ _ _ => False) (κ := fun i => [0, 0, 0, 1, 0, 0, 0, 0, 1, 0, 0, 0, 0, 1, 0, 0, 1, 0, 0, 0, 1, 0, 0, 1, 0, 5, 0, 6].getD i 0) [0, 1, 2, 3, 4, 5, 6, 7, 8, 9, 10, 11, 12, 13, 14, 15, 16, 17, 18, 19, 20, 21, 22, 23, 24, 25, 26, 27] (by kernel_rfl) (by kernel_rfl) (fun _ _ d _ _ h => by cases d <;> first | exact h | exact absurd h (hP _ _ _)) ?_
  (refine TD.val0 (v := ?v21) (by simp only [zA, zB, zC]; rfl) rfl ?hw21 (fun w1 => ?hy21) ?hn21; (case hw21 => rfl); (case hy21 => (go_simp; (try with_reducible rfl))); (try simp only [Act.put, zF, zG, zH]))
  (refine TD.val0 (v := ?v22) (by simp only [zA, zB, zC]; rfl) rfl ?hw22 (fun w1 => ?hy22) ?hn22; (case hw22 => rfl); (case hy22 => (go_simp; (try with_reducible rfl))); (try simp only [Act.put, zF, zG, zH]))
  (refine TD.val0 (v := ?v23) (by simp only [zA, zB, zC]; rfl) rfl ?hw23 (fun w1 => ?hy23) ?hn23; (case hw23 => rfl); (case hy23 => (go_simp; (try with_reducible rfl))); (try simp only [Act.put, zF, zG, zH]))
  (refine TD.load (v := ?v24) (p := ?p24) (Mod.refl _ _) (by simp only [zA, zB, zC]; rfl) rfl ?hw24 rfl ?hx24 (fun wq hSq => ?hy24) ?hn24; (case hw24 => rfl); (case hx24 => (simp only [Act.eval, zD, zA, zB, zC, zE]; (try rfl))); (case hy24 => (have ksq := hSq.at ks (fun h => h); have kgq := hSq.at kg (fun h => h); have kaq := hSq.at ka (fun h => h); have kbq := hSq.at kb (fun h => h); go_simp; (try with_reducible rfl))); (try simp only [Act.put, zF, zG, zH]))
  (refine TD.val0 (v := ?v25) (by simp only [zA, zB, zC]; rfl) rfl ?hw25 (fun w1 => ?hy25) ?hn25; (case hw25 => rfl); (case hy25 => (go_simp; (try with_reducible rfl))); (try simp only [Act.put, zF, zG, zH]))
  (refine TD.val0 (v := ?v26) (by simp only [zA, zB, zC]; rfl) rfl ?hw26 (fun w1 => ?hy26) ?hn26; (case hw26 => rfl); (case hy26 => (go_simp; (try with_reducible rfl))); (try simp only [Act.put, zF, zG, zH]))
  (refine TD.val0 (v := ?v27) (by simp only [zA, zB, zC]; rfl) rfl ?hw27 (fun w1 => ?hy27) ?hn27; (case hw27 => rfl); (case hy27 => (go_simp; (try with_reducible rfl))); (try simp only [Act.put, zF, zG, zH]))
  (refine TD.val0 (v := ?v28) (by simp only [zA, zB, zC]; rfl) rfl ?hw28 (fun w1 => ?hy28) ?hn28; (case hw28 => rfl); (case hy28 => (go_simp; (try with_reducible rfl))); (try simp only [Act.put, zF, zG, zH]))
  (refine TD.load (v := ?v29) (p := ?p29) (Mod.refl _ _) (by simp only [zA, zB, zC]; rfl) rfl ?hw29 rfl ?hx29 (fun wq hSq => ?hy29) ?hn29; (case hw29 => rfl); (case hx29 => (simp only [Act.eval, zD, zA, zB, zC, zE]; (try rfl))); (case hy29 => (have ksq := hSq.at ks (fun h => h); have kgq := hSq.at kg (fun h => h); have kaq := hSq.at ka (fun h => h); have kbq := hSq.at kb (fun h => h); go_simp; (try with_reducible rfl))); (try simp only [Act.put, zF, zG, zH]))
  (refine TD.val0 (v := ?v30) (by simp only [zA, zB, zC]; rfl) rfl ?hw30 (fun w1 => ?hy30) ?hn30; (case hw30 => rfl); (case hy30 => (go_simp; (try with_reducible rfl))); (try simp only [Act.put, zF, zG, zH]))
  (refine TD.val0 (v := ?v31) (by simp only [zA, zB, zC]; rfl) rfl ?hw31 (fun w1 => ?hy31) ?hn31; (case hw31 => rfl); (case hy31 => (go_simp; (try with_reducible rfl))); (try simp only [Act.put, zF, zG, zH]))
  (refine TD.val0 (v := ?v32) (by simp only [zA, zB, zC]; rfl) rfl ?hw32 (fun w1 => ?hy32) ?hn32; (case hw32 => rfl); (case hy32 => (go_simp; (try with_reducible rfl))); (try simp only [Act.put, zF, zG, zH]))
  (refine TD.val0 (v := ?v33) (by simp only [zA, zB, zC]; rfl) rfl ?hw33 (fun w1 => ?hy33) ?hn33; (case hw33 => rfl); (case hy33 => (go_simp; (try with_reducible rfl))); (try simp only [Act.put, zF, zG, zH]))
  (refine TD.load (v := ?v34) (p := ?p34) (Mod.refl _ _) (by simp only [zA, zB, zC]; rfl) rfl ?hw34 rfl ?hx34 (fun wq hSq => ?hy34) ?hn34; (case hw34 => rfl); (case hx34 => (simp only [Act.eval, zD, zA, zB, zC, zE]; (try rfl))); (case hy34 => (have ksq := hSq.at ks (fun h => h); have kgq := hSq.at kg (fun h => h); have kaq := hSq.at ka (fun h => h); have kbq := hSq.at kb (fun h => h); go_simp; (try with_reducible rfl))); (try simp only [Act.put, zF, zG, zH]))
  (refine TD.val0 (v := ?v35) (by simp only [zA, zB, zC]; rfl) rfl ?hw35 (fun w1 => ?hy35) ?hn35; (case hw35 => rfl); (case hy35 => (go_simp; (try with_reducible rfl))); (try simp only [Act.put, zF, zG, zH]))
  (refine TD.val0 (v := ?v36) (by simp only [zA, zB, zC]; rfl) rfl ?hw36 (fun w1 => ?hy36) ?hn36; (case hw36 => rfl); (case hy36 => (go_simp; (try with_reducible rfl))); (try simp only [Act.put, zF, zG, zH]))
  (refine TD.load (v := ?v37) (p := ?p37) (Mod.refl _ _) (by simp only [zA, zB, zC]; rfl) rfl ?hw37 rfl ?hx37 (fun wq hSq => ?hy37) ?hn37; (case hw37 => rfl); (case hx37 => (simp only [Act.eval, zD, zA, zB, zC, zE]; (try rfl))); (case hy37 => (have ksq := hSq.at ks (fun h => h); have kgq := hSq.at kg (fun h => h); have kaq := hSq.at ka (fun h => h); have kbq := hSq.at kb (fun h => h); go_simp; (try with_reducible rfl))); (try simp only [Act.put, zF, zG, zH]))
  (refine TD.val0 (v := ?v38) (by simp only [zA, zB, zC]; rfl) rfl ?hw38 (fun w1 => ?hy38) ?hn38; (case hw38 => rfl); (case hy38 => (go_simp; (try with_reducible rfl))); (try simp only [Act.put, zF, zG, zH]))
  (refine TD.val0 (v := ?v39) (by simp only [zA, zB, zC]; rfl) rfl ?hw39 (fun w1 => ?hy39) ?hn39; (case hw39 => rfl); (case hy39 => (go_simp; (try with_reducible rfl))); (try simp only [Act.put, zF, zG, zH]))
  (refine TD.val0 (v := ?v40) (by simp only [zA, zB, zC]; rfl) rfl ?hw40 (fun w1 => ?hy40) ?hn40; (case hw40 => rfl); (case hy40 => (go_simp; (try with_reducible rfl))); (try simp only [Act.put, zF, zG, zH]))
  (refine TD.load (v := ?v41) (p := ?p41) (Mod.refl _ _) (by simp only [zA, zB, zC]; rfl) rfl ?hw41 rfl ?hx41 (fun wq hSq => ?hy41) ?hn41; (case hw41 => rfl); (case hx41 => (simp only [Act.eval, zD, zA, zB, zC, zE]; (try rfl))); (case hy41 => (have ksq := hSq.at ks (fun h => h); have kgq := hSq.at kg (fun h => h); have kaq := hSq.at ka (fun h => h); have kbq := hSq.at kb (fun h => h); go_simp; (try with_reducible rfl))); (try simp only [Act.put, zF, zG, zH]))
  (refine TD.val0 (v := ?v42) (by simp only [zA, zB, zC]; rfl) rfl ?hw42 (fun w1 => ?hy42) ?hn42; (case hw42 => rfl); (case hy42 => (go_simp; (try with_reducible rfl))); (try simp only [Act.put, zF, zG, zH]))
  (refine TD.val0 (v := ?v43) (by simp only [zA, zB, zC]; rfl) rfl ?hw43 (fun w1 => ?hy43) ?hn43; (case hw43 => rfl); (case hy43 => (go_simp; (try with_reducible rfl))); (try simp only [Act.put, zF, zG, zH]))
  (refine TD.load (v := ?v44) (p := ?p44) (Mod.refl _ _) (by simp only [zA, zB, zC]; rfl) rfl ?hw44 rfl ?hx44 (fun wq hSq => ?hy44) ?hn44; (case hw44 => rfl); (case hx44 => (simp only [Act.eval, zD, zA, zB, zC, zE]; (try rfl))); (case hy44 => (have ksq := hSq.at ks (fun h => h); have kgq := hSq.at kg (fun h => h); have kaq := hSq.at ka (fun h => h); have kbq := hSq.at kb (fun h => h); go_simp; (try with_reducible rfl))); (try simp only [Act.put, zF, zG, zH]))
  (refine TD.val0 (v := ?v45) (by simp only [zA, zB, zC]; rfl) rfl ?hw45 (fun w1 => ?hy45) ?hn45; (case hw45 => rfl); (case hy45 => (go_simp; (try with_reducible rfl))); (try simp only [Act.put, zF, zG, zH]))
  refine TD.eff (by simp only [zA, zB, zC]; rfl) rfl (fun w2 hr => ?_)
  have ks := hr.mod.at ks (fun h => h)
  have kg := hr.mod.at kg (fun h => h)
  have ka := hr.mod.at ka (fun h => h)
  have kb := hr.mod.at kb (fun h => h)
  (refine eff_store (X := ?X47) (Y := ?Y47) (w' := ?w47) (by simp only [zA, zB, zC]; rfl) ?hw47 rfl ?hx47 ?hz47 ?hy47 ?hn47; (case hw47 => rfl); (case hx47 => (simp only [Act.eval, zD, zA, zB, zC, zE]; (try rfl))); (case hz47 => (simp only [Act.eval, zD, zA, zB, zC, zE]; (try rfl))); (case hy47 => (go_simp; (try with_reducible rfl))))
  (first | refine TE.mid_set kg (fun wn kg mS => ?_) | refine TE.mid_setCell kg (fun wn kg mS => ?_))
  have m3 := hr.mod.then0 (Mod.refl _ _)
  have m3 := (hr.mod.mono (fun _ _ h => h.elim)).then mS (fun i _ e => e)
  (refine TE.val0 (v := ?v48) (by simp only [zA, zB, zC]; rfl) ?hw48 (fun w1 => ?hy48) ?hn48; (case hw48 => rfl); (case hy48 => (go_simp; (try with_reducible rfl))); (try simp only [Act.put, zF, zG, zH]))
  refine TE.step (by simp only [zA, zB, zC]; rfl) rfl ?_
  (refine eff_store (X := ?X49) (Y := ?Y49) (w' := ?w49) (by simp only [zA, zB, zC]; rfl) ?hw49 rfl ?hx49 ?hz49 ?hy49 ?hn49; (case hw49 => rfl); (case hx49 => (simp only [Act.eval, zD, zA, zB, zC, zE]; (try rfl))); (case hz49 => (simp only [Act.eval, zD, zA, zB, zC, zE]; (try rfl))); (case hy49 => (go_simp; (try with_reducible rfl))))
  (first | refine TE.nil_set kg (fun wn kg mS => ?_) | refine TE.nil_setCell kg (fun wn kg mS => ?_))
  have m4 := m3.then mS (fun i _ e => e)
  have c2i : ((cur.setIfInBounds i (ptrV b)).setIfInBounds j (ptrV a))[i]? = some (ptrV b) := by
    rw [Array.getElem?_setIfInBounds_ne (Ne.symm hij), Array.getElem?_setIfInBounds_self_of_lt (by omega)]
  have c2j : ((cur.setIfInBounds i (ptrV b)).setIfInBounds j (ptrV a))[j]? = some (ptrV a) := by
    rw [Array.getElem?_setIfInBounds_self_of_lt (by rw [Array.size_setIfInBounds]; omega)]
  have hcs2 : ((cur.setIfInBounds i (ptrV b)).setIfInBounds j (ptrV a)).size = cur.size := by simp
  have HC2 : Hid (∀ (c x : Nat), (swapL L i j)[c]? = some x → ((cur.setIfInBounds i (ptrV b)).setIfInBounds j (ptrV a))[c]? = some (ptrV x)) := Lib.hid (fun c x hx => by
    rw [swapL_get hi hj] at hx
    by_cases h1 : c = j
    · subst h1
      rw [if_pos rfl, HA.out] at hx
      cases hx
      exact c2j
    · rw [if_neg h1] at hx
      rw [Array.getElem?_setIfInBounds_ne (Ne.symm h1)]
      by_cases h2 : c = i
      · subst h2
        rw [if_pos rfl, HB.out] at hx
        cases hx
        rw [Array.getElem?_setIfInBounds_self_of_lt (by omega)]
      · rw [if_neg h2] at hx
        rw [Array.getElem?_setIfInBounds_ne (Ne.symm h2)]
        exact HCUR.out c x hx)
  generalize (cur.setIfInBounds i (ptrV b)).setIfInBounds j (ptrV a) = cur2 at *
  replace ks := m4.at H.out.side hsg
  replace ka := m4.at (H.out.nodes i a HA.out) hag
  replace kb := m4.at (H.out.nodes j b HB.out) hbg
  clear cj2 ci cj hcs
  cases k
  ·
    replace ka := show _ = some (Obj.cells (ndc false (nd a) i (o a)) _ _) from ka
    replace kb := show _ = some (Obj.cells (ndc false (nd b) j (o b)) _ _) from kb
    simp only [ndc, if_true, if_false, Bool.false_eq_true] at ka kb
    simp only [sdc, kn, if_true, if_false, Bool.false_eq_true] at ks
    go_upto_region 1 with fail
    have Lks := lt_size ks
    have Lkg := lt_size kg
    have Lka := lt_size ka
    have Lkb := lt_size kb
    refine wp_pass (C := fun _ _ _ => False) (κ := fun i => [0, 0, 0, 1, 0, 0, 1, 0, 0, 0, 1, 0, 0, 0, 1, 0, 0, 1, 0, 0, 0, 1, 0, 0, 0, 0, 0, 5, 0, 0, 0, 6].getD i 0) [0, 1, 2, 3, 4, 5, 6, 7, 8, 9, 10, 11, 12, 13, 14, 15, 16, 17, 18, 19, 20, 21, 22, 23, 24, 25, 26, 28, 29, 27, 30, 31] (by kernel_rfl) (by kernel_rfl) (fun _ _ d _ _ h => by cases d <;> first | exact h | exact absurd h (hP _ _ _)) ?_
    (refine TD.val0 (v := ?v50) (by simp only [zA, zB, zC]; rfl) rfl ?hw50 (fun w1 => ?hy50) ?hn50; (case hw50 => rfl); (case hy50 => (go_simp; (try with_reducible rfl))); (try simp only [Act.put, zF, zG, zH]))
    (refine TD.val0 (v := ?v51) (by simp only [zA, zB, zC]; rfl) rfl ?hw51 (fun w1 => ?hy51) ?hn51; (case hw51 => rfl); (case hy51 => (go_simp; (try with_reducible rfl))); (try simp only [Act.put, zF, zG, zH]))
    (refine TD.val0 (v := ?v52) (by simp only [zA, zB, zC]; rfl) rfl ?hw52 (fun w1 => ?hy52) ?hn52; (case hw52 => rfl); (case hy52 => (go_simp; (try with_reducible rfl))); (try simp only [Act.put, zF, zG, zH]))
    (refine TD.load (v := ?v53) (p := ?p53) (Mod.refl _ _) (by simp only [zA, zB, zC]; rfl) rfl ?hw53 rfl ?hx53 (fun wq hSq => ?hy53) ?hn53; (case hw53 => rfl); (case hx53 => (simp only [Act.eval, zD, zA, zB, zC, zE]; (try rfl))); (case hy53 => (have ksq := hSq.at ks (fun h => h); have kgq := hSq.at kg (fun h => h); have kaq := hSq.at ka (fun h => h); have kbq := hSq.at kb (fun h => h); go_simp; (try with_reducible rfl))); (try simp only [Act.put, zF, zG, zH]))
    (refine TD.val0 (v := ?v54) (by simp only [zA, zB, zC]; rfl) rfl ?hw54 (fun w1 => ?hy54) ?hn54; (case hw54 => rfl); (case hy54 => (go_simp; (try with_reducible rfl))); (try simp only [Act.put, zF, zG, zH]))
    (refine TD.val0 (v := ?v55) (by simp only [zA, zB, zC]; rfl) rfl ?hw55 (fun w1 => ?hy55) ?hn55; (case hw55 => rfl); (case hy55 => (go_simp; (try with_reducible rfl))); (try simp only [Act.put, zF, zG, zH]))
    (refine TD.load (v := ?v56) (p := ?p56) (Mod.refl _ _) (by simp only [zA, zB, zC]; rfl) rfl ?hw56 rfl ?hx56 (fun wq hSq => ?hy56) ?hn56; (case hw56 => rfl); (case hx56 => (simp only [Act.eval, zD, zA, zB, zC, zE]; (try rfl))); (case hy56 => (have ksq := hSq.at ks (fun h => h); have kgq := hSq.at kg (fun h => h); have kaq := hSq.at ka (fun h => h); have kbq := hSq.at kb (fun h => h); go_simp; (try with_reducible rfl))); (try simp only [Act.put, zF, zG, zH]))
    (refine TD.val0 (v := ?v57) (by simp only [zA, zB, zC]; rfl) rfl ?hw57 (fun w1 => ?hy57) ?hn57; (case hw57 => rfl); (case hy57 => (go_simp; (try with_reducible rfl))); (try simp only [Act.put, zF, zG, zH]))
    (refine TD.val0 (v := ?v58) (by simp only [zA, zB, zC]; rfl) rfl ?hw58 (fun w1 => ?hy58) ?hn58; (case hw58 => rfl); (case hy58 => (go_simp; (try with_reducible rfl))); (try simp only [Act.put, zF, zG, zH]))
    (refine TD.val0 (v := ?v59) (by simp only [zA, zB, zC]; rfl) rfl ?hw59 (fun w1 => ?hy59) ?hn59; (case hw59 => rfl); (case hy59 => (go_simp; (try with_reducible rfl))); (try simp only [Act.put, zF, zG, zH]))
    (refine TD.load (v := ?v60) (p := ?p60) (Mod.refl _ _) (by simp only [zA, zB, zC]; rfl) rfl ?hw60 rfl ?hx60 (fun wq hSq => ?hy60) ?hn60; (case hw60 => rfl); (case hx60 => (simp only [Act.eval, zD, zA, zB, zC, zE]; (try rfl))); (case hy60 => (have ksq := hSq.at ks (fun h => h); have kgq := hSq.at kg (fun h => h); have kaq := hSq.at ka (fun h => h); have kbq := hSq.at kb (fun h => h); go_simp; (try with_reducible rfl))); (try simp only [Act.put, zF, zG, zH]))
    (refine TD.val0 (v := ?v61) (by simp only [zA, zB, zC]; rfl) rfl ?hw61 (fun w1 => ?hy61) ?hn61; (case hw61 => rfl); (case hy61 => (go_simp; (try with_reducible rfl))); (try simp only [Act.put, zF, zG, zH]))
    (refine TD.val0 (v := ?v62) (by simp only [zA, zB, zC]; rfl) rfl ?hw62 (fun w1 => ?hy62) ?hn62; (case hw62 => rfl); (case hy62 => (go_simp; (try with_reducible rfl))); (try simp only [Act.put, zF, zG, zH]))
    (refine TD.val0 (v := ?v63) (by simp only [zA, zB, zC]; rfl) rfl ?hw63 (fun w1 => ?hy63) ?hn63; (case hw63 => rfl); (case hy63 => (go_simp; (try with_reducible rfl))); (try simp only [Act.put, zF, zG, zH]))
    (refine TD.load (v := ?v64) (p := ?p64) (Mod.refl _ _) (by simp only [zA, zB, zC]; rfl) rfl ?hw64 rfl ?hx64 (fun wq hSq => ?hy64) ?hn64; (case hw64 => rfl); (case hx64 => (simp only [Act.eval, zD, zA, zB, zC, zE]; (try rfl))); (case hy64 => (have ksq := hSq.at ks (fun h => h); have kgq := hSq.at kg (fun h => h); have kaq := hSq.at ka (fun h => h); have kbq := hSq.at kb (fun h => h); go_simp; (try with_reducible rfl))); (try simp only [Act.put, zF, zG, zH]))
    (refine TD.val0 (v := ?v65) (by simp only [zA, zB, zC]; rfl) rfl ?hw65 (fun w1 => ?hy65) ?hn65; (case hw65 => rfl); (case hy65 => (go_simp; (try with_reducible rfl))); (try simp only [Act.put, zF, zG, zH]))
    (refine TD.val0 (v := ?v66) (by simp only [zA, zB, zC]; rfl) rfl ?hw66 (fun w1 => ?hy66) ?hn66; (case hw66 => rfl); (case hy66 => (go_simp; (try with_reducible rfl))); (try simp only [Act.put, zF, zG, zH]))
    (refine TD.load (v := ?v67) (p := ?p67) (Mod.refl _ _) (by simp only [zA, zB, zC]; rfl) rfl ?hw67 rfl ?hx67 (fun wq hSq => ?hy67) ?hn67; (case hw67 => rfl); (case hx67 => (simp only [Act.eval, zD, zA, zB, zC, zE]; (try rfl))); (case hy67 => (have ksq := hSq.at ks (fun h => h); have kgq := hSq.at kg (fun h => h); have kaq := hSq.at ka (fun h => h); have kbq := hSq.at kb (fun h => h); go_simp; (try with_reducible rfl))); (try simp only [Act.put, zF, zG, zH]))
    (refine TD.val0 (v := ?v68) (by simp only [zA, zB, zC]; rfl) rfl ?hw68 (fun w1 => ?hy68) ?hn68; (case hw68 => rfl); (case hy68 => (go_simp; (try with_reducible rfl))); (try simp only [Act.put, zF, zG, zH]))
    (refine TD.val0 (v := ?v69) (by simp only [zA, zB, zC]; rfl) rfl ?hw69 (fun w1 => ?hy69) ?hn69; (case hw69 => rfl); (case hy69 => (go_simp; (try with_reducible rfl))); (try simp only [Act.put, zF, zG, zH]))
    (refine TD.val0 (v := ?v70) (by simp only [zA, zB, zC]; rfl) rfl ?hw70 (fun w1 => ?hy70) ?hn70; (case hw70 => rfl); (case hy70 => (go_simp; (try with_reducible rfl))); (try simp only [Act.put, zF, zG, zH]))
    (refine TD.load (v := ?v71) (p := ?p71) (Mod.refl _ _) (by simp only [zA, zB, zC]; rfl) rfl ?hw71 rfl ?hx71 (fun wq hSq => ?hy71) ?hn71; (case hw71 => rfl); (case hx71 => (simp only [Act.eval, zD, zA, zB, zC, zE]; (try rfl))); (case hy71 => (have ksq := hSq.at ks (fun h => h); have kgq := hSq.at kg (fun h => h); have kaq := hSq.at ka (fun h => h); have kbq := hSq.at kb (fun h => h); go_simp; (try with_reducible rfl))); (try simp only [Act.put, zF, zG, zH]))
    (refine TD.val0 (v := ?v72) (by simp only [zA, zB, zC]; rfl) rfl ?hw72 (fun w1 => ?hy72) ?hn72; (case hw72 => rfl); (case hy72 => (go_simp; (try with_reducible rfl))); (try simp only [Act.put, zF, zG, zH]))
    (refine TD.val0 (v := ?v73) (by simp only [zA, zB, zC]; rfl) rfl ?hw73 (fun w1 => ?hy73) ?hn73; (case hw73 => rfl); (case hy73 => (go_simp; (try with_reducible rfl))); (try simp only [Act.put, zF, zG, zH]))
    (refine TD.val0 (v := ?v74) (by simp only [zA, zB, zC]; rfl) rfl ?hw74 (fun w1 => ?hy74) ?hn74; (case hw74 => rfl); (case hy74 => (go_simp; (try with_reducible rfl))); (try simp only [Act.put, zF, zG, zH]))
    (refine TD.val0 (v := ?v75) (by simp only [zA, zB, zC]; rfl) rfl ?hw75 (fun w1 => ?hy75) ?hn75; (case hw75 => rfl); (case hy75 => (go_simp; (try with_reducible rfl))); (try simp only [Act.put, zF, zG, zH]))
    (refine TD.val0 (v := ?v76) (by simp only [zA, zB, zC]; rfl) rfl ?hw76 (fun w1 => ?hy76) ?hn76; (case hw76 => rfl); (case hy76 => (go_simp; (try with_reducible rfl))); (try simp only [Act.put, zF, zG, zH]))
    (refine TD.val0 (v := ?v77) (by simp only [zA, zB, zC]; rfl) rfl ?hw77 (fun w1 => ?hy77) ?hn77; (case hw77 => rfl); (case hy77 => (go_simp; (try with_reducible rfl))); (try simp only [Act.put, zF, zG, zH]))
    (refine TD.val0 (v := ?v78) (by simp only [zA, zB, zC]; rfl) rfl ?hw78 (fun w1 => ?hy78) ?hn78; (case hw78 => rfl); (case hy78 => (go_simp; (try with_reducible rfl))); (try simp only [Act.put, zF, zG, zH]))
    refine TD.eff (by simp only [zA, zB, zC]; rfl) rfl (fun w5 hr => ?_)
    have ks := hr.mod.at ks (fun h => h)
    have kg := hr.mod.at kg (fun h => h)
    have ka := hr.mod.at ka (fun h => h)
    have kb := hr.mod.at kb (fun h => h)
    have m5 := m4.then0 hr.mod
    (refine eff_store (X := ?X80) (Y := ?Y80) (w' := ?w80) (by simp only [zA, zB, zC]; rfl) ?hw80 rfl ?hx80 ?hz80 ?hy80 ?hn80; (case hw80 => rfl); (case hx80 => (simp only [Act.eval, zD, zA, zB, zC, zE]; (try rfl))); (case hz80 => (simp only [Act.eval, zD, zA, zB, zC, zE]; (try rfl))); (case hy80 => (go_simp; (try with_reducible rfl))))
    (first | refine TE.mid_set kb (fun wn kb mS => ?_) | refine TE.mid_setCell kb (fun wn kb mS => ?_))
    (try simp only [Array.setIfInBounds, zF, zG, zH] at kb)
    have m6 : Mod (fun i => i = g ∨ i = b) w wn := (m5.mono (fun i _ e => .inl e)).then mS (fun i _ e => .inr e)
    replace ka := mS.at_ne ka hab
    replace kg := mS.at_ne kg (Ne.symm hbg)
    (refine TE.val0 (v := ?v81) (by simp only [zA, zB, zC]; rfl) ?hw81 (fun w1 => ?hy81) ?hn81; (case hw81 => rfl); (case hy81 => (go_simp; (try with_reducible rfl))); (try simp only [Act.put, zF, zG, zH]))
    refine TE.step (by simp only [zA, zB, zC]; rfl) rfl ?_
    (refine eff_store (X := ?X82) (Y := ?Y82) (w' := ?w82) (by simp only [zA, zB, zC]; rfl) ?hw82 rfl ?hx82 ?hz82 ?hy82 ?hn82; (case hw82 => rfl); (case hx82 => (simp only [Act.eval, zD, zA, zB, zC, zE]; (try rfl))); (case hz82 => (simp only [Act.eval, zD, zA, zB, zC, zE]; (try rfl))); (case hy82 => (go_simp; (try with_reducible rfl))))
    (first | refine TE.nil_set ka (fun wn ka mS => ?_) | refine TE.nil_setCell ka (fun wn ka mS => ?_))
    (try simp only [Array.setIfInBounds, zF, zG, zH] at ka)
    have m7 : Mod (fun i => i = g ∨ i = b ∨ i = a) w wn := (m6.mono (fun i _ e => e.elim .inl (fun h => .inr (.inl h)))).then mS (fun i _ e => .inr (.inr e))
    replace kb := mS.at_ne kb (Ne.symm hab)
    replace kg := mS.at_ne kg (Ne.symm hag)
    replace ks := m7.at H.out.side (fun e => by rcases e with e | e | e; exact hsg e; exact hbs e.symm; exact has e.symm)
    clear hr
    go_wp2_with fail
    go_end0
    refine ⟨rfl, ⟨ks, HBACK.out _ _ _ kg hcs2 (swapL_length _ _) HC2.out, fun c x hx => ?_⟩, m7.mono (fun t _ e => ?_)⟩
    · rw [swapL_get hi hj] at hx
      by_cases h1 : c = j
      · subst h1
        rw [if_pos rfl, HA.out] at hx
        cases hx
        exact ka
      · rw [if_neg h1] at hx
        by_cases h2 : c = i
        · subst h2
          rw [if_pos rfl, HB.out] at hx
          cases hx
          exact kb
        · rw [if_neg h2] at hx
          have h3 := H.out.nodes c x hx
          refine m7.at h3 (fun e => ?_)
          rcases e with e | e | e
          · exact (ne_of_obj h3 KG0.out (obj_ty (by decide))) e
          · exact h1 ((List.getElem?_inj hj H.out.nodup).1 (by rw [hx, HB.out, e])).symm
          · exact h2 ((List.getElem?_inj hi H.out.nodup).1 (by rw [hx, HA.out, e])).symm
    · rcases e with rfl | rfl | rfl
      · exact .inl rfl
      · exact .inr (List.mem_of_getElem? HB.out)
      · exact .inr (List.mem_of_getElem? HA.out)
  ·
    replace ka := show _ = some (Obj.cells (ndc true (nd a) i (o a)) _ _) from ka
    replace kb := show _ = some (Obj.cells (ndc true (nd b) j (o b)) _ _) from kb
    simp only [ndc, if_true, if_false, Bool.false_eq_true] at ka kb
    simp only [sdc, kn, if_true, if_false, Bool.false_eq_true] at ks
    go_upto_region 1 with fail
    have Lks := lt_size ks
    have Lkg := lt_size kg
    have Lka := lt_size ka
    have Lkb := lt_size kb
    refine wp_pass (C := fun _ _ _ => False) (κ := fun i => [0, 0, 0, 1, 0, 0, 1, 0, 0, 0, 1, 0, 0, 0, 1, 0, 0, 1, 0, 0, 0, 1, 0, 0, 0, 0, 0, 5, 0, 0, 0, 6].getD i 0) [0, 1, 2, 3, 4, 5, 6, 7, 8, 9, 10, 11, 12, 13, 14, 15, 16, 17, 18, 19, 20, 21, 22, 23, 24, 25, 26, 28, 29, 27, 30, 31] (by kernel_rfl) (by kernel_rfl) (fun _ _ d _ _ h => by cases d <;> first | exact h | exact absurd h (hP _ _ _)) ?_
    (refine TD.val0 (v := ?v83) (by simp only [zA, zB, zC]; rfl) rfl ?hw83 (fun w1 => ?hy83) ?hn83; (case hw83 => rfl); (case hy83 => (go_simp; (try with_reducible rfl))); (try simp only [Act.put, zF, zG, zH]))
    (refine TD.val0 (v := ?v84) (by simp only [zA, zB, zC]; rfl) rfl ?hw84 (fun w1 => ?hy84) ?hn84; (case hw84 => rfl); (case hy84 => (go_simp; (try with_reducible rfl))); (try simp only [Act.put, zF, zG, zH]))
    (refine TD.val0 (v := ?v85) (by simp only [zA, zB, zC]; rfl) rfl ?hw85 (fun w1 => ?hy85) ?hn85; (case hw85 => rfl); (case hy85 => (go_simp; (try with_reducible rfl))); (try simp only [Act.put, zF, zG, zH]))
    (refine TD.load (v := ?v86) (p := ?p86) (Mod.refl _ _) (by simp only [zA, zB, zC]; rfl) rfl ?hw86 rfl ?hx86 (fun wq hSq => ?hy86) ?hn86; (case hw86 => rfl); (case hx86 => (simp only [Act.eval, zD, zA, zB, zC, zE]; (try rfl))); (case hy86 => (have ksq := hSq.at ks (fun h => h); have kgq := hSq.at kg (fun h => h); have kaq := hSq.at ka (fun h => h); have kbq := hSq.at kb (fun h => h); go_simp; (try with_reducible rfl))); (try simp only [Act.put, zF, zG, zH]))
    (refine TD.val0 (v := ?v87) (by simp only [zA, zB, zC]; rfl) rfl ?hw87 (fun w1 => ?hy87) ?hn87; (case hw87 => rfl); (case hy87 => (go_simp; (try with_reducible rfl))); (try simp only [Act.put, zF, zG, zH]))
    (refine TD.val0 (v := ?v88) (by simp only [zA, zB, zC]; rfl) rfl ?hw88 (fun w1 => ?hy88) ?hn88; (case hw88 => rfl); (case hy88 => (go_simp; (try with_reducible rfl))); (try simp only [Act.put, zF, zG, zH]))
    (refine TD.load (v := ?v89) (p := ?p89) (Mod.refl _ _) (by simp only [zA, zB, zC]; rfl) rfl ?hw89 rfl ?hx89 (fun wq hSq => ?hy89) ?hn89; (case hw89 => rfl); (case hx89 => (simp only [Act.eval, zD, zA, zB, zC, zE]; (try rfl))); (case hy89 => (have ksq := hSq.at ks (fun h => h); have kgq := hSq.at kg (fun h => h); have kaq := hSq.at ka (fun h => h); have kbq := hSq.at kb (fun h => h); go_simp; (try with_reducible rfl))); (try simp only [Act.put, zF, zG, zH]))
    (refine TD.val0 (v := ?v90) (by simp only [zA, zB, zC]; rfl) rfl ?hw90 (fun w1 => ?hy90) ?hn90; (case hw90 => rfl); (case hy90 => (go_simp; (try with_reducible rfl))); (try simp only [Act.put, zF, zG, zH]))
    (refine TD.val0 (v := ?v91) (by simp only [zA, zB, zC]; rfl) rfl ?hw91 (fun w1 => ?hy91) ?hn91; (case hw91 => rfl); (case hy91 => (go_simp; (try with_reducible rfl))); (try simp only [Act.put, zF, zG, zH]))
    (refine TD.val0 (v := ?v92) (by simp only [zA, zB, zC]; rfl) rfl ?hw92 (fun w1 => ?hy92) ?hn92; (case hw92 => rfl); (case hy92 => (go_simp; (try with_reducible rfl))); (try simp only [Act.put, zF, zG, zH]))
    (refine TD.load (v := ?v93) (p := ?p93) (Mod.refl _ _) (by simp only [zA, zB, zC]; rfl) rfl ?hw93 rfl ?hx93 (fun wq hSq => ?hy93) ?hn93; (case hw93 => rfl); (case hx93 => (simp only [Act.eval, zD, zA, zB, zC, zE]; (try rfl))); (case hy93 => (have ksq := hSq.at ks (fun h => h); have kgq := hSq.at kg (fun h => h); have kaq := hSq.at ka (fun h => h); have kbq := hSq.at kb (fun h => h); go_simp; (try with_reducible rfl))); (try simp only [Act.put, zF, zG, zH]))
    (refine TD.val0 (v := ?v94) (by simp only [zA, zB, zC]; rfl) rfl ?hw94 (fun w1 => ?hy94) ?hn94; (case hw94 => rfl); (case hy94 => (go_simp; (try with_reducible rfl))); (try simp only [Act.put, zF, zG, zH]))
    (refine TD.val0 (v := ?v95) (by simp only [zA, zB, zC]; rfl) rfl ?hw95 (fun w1 => ?hy95) ?hn95; (case hw95 => rfl); (case hy95 => (go_simp; (try with_reducible rfl))); (try simp only [Act.put, zF, zG, zH]))
    (refine TD.val0 (v := ?v96) (by simp only [zA, zB, zC]; rfl) rfl ?hw96 (fun w1 => ?hy96) ?hn96; (case hw96 => rfl); (case hy96 => (go_simp; (try with_reducible rfl))); (try simp only [Act.put, zF, zG, zH]))
    (refine TD.load (v := ?v97) (p := ?p97) (Mod.refl _ _) (by simp only [zA, zB, zC]; rfl) rfl ?hw97 rfl ?hx97 (fun wq hSq => ?hy97) ?hn97; (case hw97 => rfl); (case hx97 => (simp only [Act.eval, zD, zA, zB, zC, zE]; (try rfl))); (case hy97 => (have ksq := hSq.at ks (fun h => h); have kgq := hSq.at kg (fun h => h); have kaq := hSq.at ka (fun h => h); have kbq := hSq.at kb (fun h => h); go_simp; (try with_reducible rfl))); (try simp only [Act.put, zF, zG, zH]))
    (refine TD.val0 (v := ?v98) (by simp only [zA, zB, zC]; rfl) rfl ?hw98 (fun w1 => ?hy98) ?hn98; (case hw98 => rfl); (case hy98 => (go_simp; (try with_reducible rfl))); (try simp only [Act.put, zF, zG, zH]))
    (refine TD.val0 (v := ?v99) (by simp only [zA, zB, zC]; rfl) rfl ?hw99 (fun w1 => ?hy99) ?hn99; (case hw99 => rfl); (case hy99 => (go_simp; (try with_reducible rfl))); (try simp only [Act.put, zF, zG, zH]))
    (refine TD.load (v := ?v100) (p := ?p100) (Mod.refl _ _) (by simp only [zA, zB, zC]; rfl) rfl ?hw100 rfl ?hx100 (fun wq hSq => ?hy100) ?hn100; (case hw100 => rfl); (case hx100 => (simp only [Act.eval, zD, zA, zB, zC, zE]; (try rfl))); (case hy100 => (have ksq := hSq.at ks (fun h => h); have kgq := hSq.at kg (fun h => h); have kaq := hSq.at ka (fun h => h); have kbq := hSq.at kb (fun h => h); go_simp; (try with_reducible rfl))); (try simp only [Act.put, zF, zG, zH]))
    (refine TD.val0 (v := ?v101) (by simp only [zA, zB, zC]; rfl) rfl ?hw101 (fun w1 => ?hy101) ?hn101; (case hw101 => rfl); (case hy101 => (go_simp; (try with_reducible rfl))); (try simp only [Act.put, zF, zG, zH]))
    (refine TD.val0 (v := ?v102) (by simp only [zA, zB, zC]; rfl) rfl ?hw102 (fun w1 => ?hy102) ?hn102; (case hw102 => rfl); (case hy102 => (go_simp; (try with_reducible rfl))); (try simp only [Act.put, zF, zG, zH]))
    (refine TD.val0 (v := ?v103) (by simp only [zA, zB, zC]; rfl) rfl ?hw103 (fun w1 => ?hy103) ?hn103; (case hw103 => rfl); (case hy103 => (go_simp; (try with_reducible rfl))); (try simp only [Act.put, zF, zG, zH]))
    (refine TD.load (v := ?v104) (p := ?p104) (Mod.refl _ _) (by simp only [zA, zB, zC]; rfl) rfl ?hw104 rfl ?hx104 (fun wq hSq => ?hy104) ?hn104; (case hw104 => rfl); (case hx104 => (simp only [Act.eval, zD, zA, zB, zC, zE]; (try rfl))); (case hy104 => (have ksq := hSq.at ks (fun h => h); have kgq := hSq.at kg (fun h => h); have kaq := hSq.at ka (fun h => h); have kbq := hSq.at kb (fun h => h); go_simp; (try with_reducible rfl))); (try simp only [Act.put, zF, zG, zH]))
    (refine TD.val0 (v := ?v105) (by simp only [zA, zB, zC]; rfl) rfl ?hw105 (fun w1 => ?hy105) ?hn105; (case hw105 => rfl); (case hy105 => (go_simp; (try with_reducible rfl))); (try simp only [Act.put, zF, zG, zH]))
    (refine TD.val0 (v := ?v106) (by simp only [zA, zB, zC]; rfl) rfl ?hw106 (fun w1 => ?hy106) ?hn106; (case hw106 => rfl); (case hy106 => (go_simp; (try with_reducible rfl))); (try simp only [Act.put, zF, zG, zH]))
    (refine TD.val0 (v := ?v107) (by simp only [zA, zB, zC]; rfl) rfl ?hw107 (fun w1 => ?hy107) ?hn107; (case hw107 => rfl); (case hy107 => (go_simp; (try with_reducible rfl))); (try simp only [Act.put, zF, zG, zH]))
    (refine TD.val0 (v := ?v108) (by simp only [zA, zB, zC]; rfl) rfl ?hw108 (fun w1 => ?hy108) ?hn108; (case hw108 => rfl); (case hy108 => (go_simp; (try with_reducible rfl))); (try simp only [Act.put, zF, zG, zH]))
    (refine TD.val0 (v := ?v109) (by simp only [zA, zB, zC]; rfl) rfl ?hw109 (fun w1 => ?hy109) ?hn109; (case hw109 => rfl); (case hy109 => (go_simp; (try with_reducible rfl))); (try simp only [Act.put, zF, zG, zH]))
    (refine TD.val0 (v := ?v110) (by simp only [zA, zB, zC]; rfl) rfl ?hw110 (fun w1 => ?hy110) ?hn110; (case hw110 => rfl); (case hy110 => (go_simp; (try with_reducible rfl))); (try simp only [Act.put, zF, zG, zH]))
    (refine TD.val0 (v := ?v111) (by simp only [zA, zB, zC]; rfl) rfl ?hw111 (fun w1 => ?hy111) ?hn111; (case hw111 => rfl); (case hy111 => (go_simp; (try with_reducible rfl))); (try simp only [Act.put, zF, zG, zH]))
    refine TD.eff (by simp only [zA, zB, zC]; rfl) rfl (fun w5 hr => ?_)
    have ks := hr.mod.at ks (fun h => h)
    have kg := hr.mod.at kg (fun h => h)
    have ka := hr.mod.at ka (fun h => h)
    have kb := hr.mod.at kb (fun h => h)
    have m5 := m4.then0 hr.mod
    (refine eff_store (X := ?X113) (Y := ?Y113) (w' := ?w113) (by simp only [zA, zB, zC]; rfl) ?hw113 rfl ?hx113 ?hz113 ?hy113 ?hn113; (case hw113 => rfl); (case hx113 => (simp only [Act.eval, zD, zA, zB, zC, zE]; (try rfl))); (case hz113 => (simp only [Act.eval, zD, zA, zB, zC, zE]; (try rfl))); (case hy113 => (go_simp; (try with_reducible rfl))))
    (first | refine TE.mid_set kb (fun wn kb mS => ?_) | refine TE.mid_setCell kb (fun wn kb mS => ?_))
    (try simp only [Array.setIfInBounds, zF, zG, zH] at kb)
    have m6 : Mod (fun i => i = g ∨ i = b) w wn := (m5.mono (fun i _ e => .inl e)).then mS (fun i _ e => .inr e)
    replace ka := mS.at_ne ka hab
    replace kg := mS.at_ne kg (Ne.symm hbg)
    (refine TE.val0 (v := ?v114) (by simp only [zA, zB, zC]; rfl) ?hw114 (fun w1 => ?hy114) ?hn114; (case hw114 => rfl); (case hy114 => (go_simp; (try with_reducible rfl))); (try simp only [Act.put, zF, zG, zH]))
    refine TE.step (by simp only [zA, zB, zC]; rfl) rfl ?_
    (refine eff_store (X := ?X115) (Y := ?Y115) (w' := ?w115) (by simp only [zA, zB, zC]; rfl) ?hw115 rfl ?hx115 ?hz115 ?hy115 ?hn115; (case hw115 => rfl); (case hx115 => (simp only [Act.eval, zD, zA, zB, zC, zE]; (try rfl))); (case hz115 => (simp only [Act.eval, zD, zA, zB, zC, zE]; (try rfl))); (case hy115 => (go_simp; (try with_reducible rfl))))
    (first | refine TE.nil_set ka (fun wn ka mS => ?_) | refine TE.nil_setCell ka (fun wn ka mS => ?_))
    (try simp only [Array.setIfInBounds, zF, zG, zH] at ka)
    have m7 : Mod (fun i => i = g ∨ i = b ∨ i = a) w wn := (m6.mono (fun i _ e => e.elim .inl (fun h => .inr (.inl h)))).then mS (fun i _ e => .inr (.inr e))
    replace kb := mS.at_ne kb (Ne.symm hab)
    replace kg := mS.at_ne kg (Ne.symm hag)
    replace ks := m7.at H.out.side (fun e => by rcases e with e | e | e; exact hsg e; exact hbs e.symm; exact has e.symm)
    clear hr
    go_wp2_with fail
    go_end0
    refine ⟨rfl, ⟨ks, HBACK.out _ _ _ kg hcs2 (swapL_length _ _) HC2.out, fun c x hx => ?_⟩, m7.mono (fun t _ e => ?_)⟩
    · rw [swapL_get hi hj] at hx
      by_cases h1 : c = j
      · subst h1
        rw [if_pos rfl, HA.out] at hx
        cases hx
        exact ka
      · rw [if_neg h1] at hx
        by_cases h2 : c = i
        · subst h2
          rw [if_pos rfl, HB.out] at hx
          cases hx
          exact kb
        · rw [if_neg h2] at hx
          have h3 := H.out.nodes c x hx
          refine m7.at h3 (fun e => ?_)
          rcases e with e | e | e
          · exact (ne_of_obj h3 KG0.out (obj_ty (by decide))) e
          · exact h1 ((List.getElem?_inj hj H.out.nodup).1 (by rw [hx, HB.out, e])).symm
          · exact h2 ((List.getElem?_inj hi H.out.nodup).1 (by rw [hx, HA.out, e])).symm
    · rcases e with rfl | rfl | rfl
      · exact .inl rfl
      · exact .inr (List.mem_of_getElem? HB.out)
      · exact .inr (List.mem_of_getElem? HA.out)
end
end Go.Proofs.YtdeghpmlhcaedaaDoor
