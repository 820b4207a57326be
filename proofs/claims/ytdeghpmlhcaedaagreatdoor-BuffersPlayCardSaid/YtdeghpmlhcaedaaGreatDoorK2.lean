/- The lemmas of the proof, part 2: how the program and its data lie in memory, and what its functions do. -/
import Derived.Test.YtdeghpmlhcaedaaGreatDoorK1
import Derived.RangeFuncNested
import Derived.RangeFuncBox
import Derived.RangeFuncLeaves
import Derived.Shelf.Abstract
import Derived.WalkKit
import Derived.OwnWalkIn
import Derived.TacticsInMore
import Derived.LoopNIn
import Derived.LoopIn
import Derived.Maps.AppendAt
import Derived.Shelf.SlGeneric
import Derived.Shelf.SlSortCmp.Whole1
import Derived.Ground.SlsfProg
import Derived.Test.YtdeghpmlhcaedaaGreatDoorProg
set_option linter.unusedSimpArgs false
set_option linter.unusedVariables false
set_option linter.unusedSectionVars false
namespace Go.Proofs.YtdeghpmlhcaedaaGreatDoor
open Go.RowKit Go.Sort
open Go.ChangeMaps (setBlock)
attribute [local go_sem ↓] wlRk ldRk stRk eqRk eqRk2
attribute [local go_sem] rkc_size ndc_size cell_blk frozen_blk one_int one_bool one_ptr one_slice one_map Value.cells enter_fn
def kn (k : Bool) : Nat := if k then 1 else 0
abbrev sdc (k : Bool) (v : Value) : Array Value := #[.int .i64 (kn k : Int), .func (.func (fn k)) #[] #[], v]
structure Sd (w : World) (s : Nat) (k : Bool) (v : Value) (L : List Nat) (nd : Nat → Nd) (o : Nat → Int) : Prop where
 side : w.heap[s]? = some (.cells (sdc k v) 103 (0, 0))
 own : SlOwn pc 1 104 w 0 v L
 nodes : ∀ (i b : Nat), L[i]? = some b → w.heap[b]? = some (.cells (ndc k (nd b) (i : Int) (o b)) 128 (0, 0))
section
variable {w w' : World} {s : Nat} {k : Bool} {v : Value} {L : List Nat} {nd : Nat → Nd} {o : Nat → Int}
theorem own_block {base : Nat} (h : SlOwn pc 1 104 w base v L) {g : Nat} (hg : v.ownBlock = some g) : ∃ cur, w.heap[g]? = some (.cells cur 104 (0, 0)) := by
 rcases h.2 with ⟨rfl, _⟩ | ⟨g', cap, cur, rfl, _, hg', _⟩
 ·cases hg
 ·cases hg
  exact ⟨cur, hg'⟩
theorem obj_ty {c c' : Array Value} {T T' : TypeId} (h : T ≠ T') : Obj.cells c T (0, 0) ≠ .cells c' T' (0, 0) := by
 intro e
 cases e
 exact h rfl
theorem Sd.mod {S : Nat → Prop} (h : Sd w s k v L nd o) (hm : Mod S w w') (h1 : ¬ S s) (h2 : ∀ g, v.ownBlock = some g → ¬ S g) (h3 : ∀ b ∈ L, ¬ S b) : Sd w' s k v L nd o :=
 ⟨hm.at h.side h1, h.own.mod hm h2, fun i b hb => hm.at (h.nodes i b hb) (h3 b (List.mem_of_getElem? hb))⟩
theorem Sd.mod0 (h : Sd w s k v L nd o) (hm : Mod (fun _ => False) w w') : Sd w' s k v L nd o := h.mod hm (fun h => h) (fun _ _ h => h) (fun _ _ h => h)
theorem Sd.nodup (h : Sd w s k v L nd o) : L.Nodup := by
 rw [List.nodup_iff_pairwise_ne, List.pairwise_iff_getElem]
 intro i j hi hj hij e
 have h1 := h.nodes i _ (List.getElem?_eq_getElem hi)
 have h2 := h.nodes j _ (List.getElem?_eq_getElem hj)
 rw [e, h2] at h1
 cases k <;> simp [ndc] at h1 <;> omega
set_option maxHeartbeats 1600000 in
theorem len_c (h : Sd w s k v L nd o) : Calls Tryz.prog 130 #[ptrV s] w fun e w' => e = .returned (.int .i64 (L.length : Int)) ∧ w' = w := by
 obtain ⟨a, c, rfl, _, _, hl⟩ := h.own.at ptrT
 have ks := h.side
 clear h
 go_enter Tryz.func130, Tryz.ntmps130
 go_wp2_with fail
 go_ret
 exact ⟨rfl, rfl⟩
set_option maxHeartbeats 1600000 in
theorem less_c (h : Sd w s k v L nd o) {i j a b : Nat} (ha : L[i]? = some a) (hb : L[j]? = some b) : Calls Tryz.prog 131 #[ptrV s, .int .i64 (i : Int), .int .i64 (j : Int)] w fun e w' => e = .returned (.bool (flt k (nd a) (nd b))) ∧ Mod (fun _ => False) w w' := by
 have hi := (List.getElem?_eq_some_iff.1 ha).1
 have hj := (List.getElem?_eq_some_iff.1 hb).1
 obtain ⟨g, cap, cur, rfl, _, kg, hcap, hcs, hcur, _⟩ := own_row h.own (fun e => by rw [e] at hi; cases hi)
 have ks := h.side
 have ka := h.nodes i a ha
 have kb := h.nodes j b hb
 have ci := hcur i a ha
 have cj := hcur j b hb
 have hcall := fun wq (hSq : Mod (fun _ => False) w wq) => first_c k a b k (nd a) (nd b) i (o a) j (o b) wq (hSq.at0 ka) (hSq.at0 kb)
 have HC := Lib.hid hcall
 clear h hcur hcall ka kb ha hb
 go_enter Tryz.func131, Tryz.ntmps131
 go_upto_region 1 with fail
 have Lks := lt_size ks
 have Lkg := lt_size kg
 refine wp_pass (C := fun _ _ v => v = .bool (flt k (nd a) (nd b))) (κ := fun i => [0, 0, 0, 1, 0, 0, 0, 1, 0, 0, 1, 0, 0, 0, 1, 0, 0, 1, 2, 0].getD i 0) [0, 1, 2, 3, 4, 5, 6, 7, 8, 9, 10, 11, 12, 13, 14, 15, 16, 17, 18, 19] (by kernel_rfl) (by kernel_rfl) (fun _ _ d _ _ h => by cases d <;> first | exact h | exact absurd h (hP _ _ _)) ?_
 (refine TD.val0 (v := ?v1) (by simp only [zK]; rfl) rfl (by rfl) (fun w1 => ?y1) ?n1; (case y1 => go_simp; try with_reducible rfl); try simp only [Act.put, zL])
 (refine TD.val0 (v := ?v2) (by simp only [zK]; rfl) rfl (by rfl) (fun w1 => ?y2) ?n2; (case y2 => go_simp; try with_reducible rfl); try simp only [Act.put, zL])
 (refine TD.val0 (v := ?v3) (by simp only [zK]; rfl) rfl (by rfl) (fun w1 => ?y3) ?n3; (case y3 => go_simp; try with_reducible rfl); try simp only [Act.put, zL])
 (refine TD.load (v := ?v4) (p := ?p4) (Mod.refl _ _) (by simp only [zK]; rfl) rfl (by rfl) rfl ?hx4 (fun wq hSq => ?y4) ?n4; (case hx4 => simp only [Act.eval, zM]; try rfl); (case y4 => (have ksq := hSq.at ks (fun h => h); have kgq := hSq.at kg (fun h => h); go_simp; (try with_reducible rfl))); try simp only [Act.put, zL])
 (refine TD.val0 (v := ?v5) (by simp only [zK]; rfl) rfl (by rfl) (fun w1 => ?y5) ?n5; (case y5 => go_simp; try with_reducible rfl); try simp only [Act.put, zL])
 (refine TD.val0 (v := ?v6) (by simp only [zK]; rfl) rfl (by rfl) (fun w1 => ?y6) ?n6; (case y6 => go_simp; try with_reducible rfl); try simp only [Act.put, zL])
 (refine TD.val0 (v := ?v7) (by simp only [zK]; rfl) rfl (by rfl) (fun w1 => ?y7) ?n7; (case y7 => go_simp; try with_reducible rfl); try simp only [Act.put, zL])
 (refine TD.load (v := ?v8) (p := ?p8) (Mod.refl _ _) (by simp only [zK]; rfl) rfl (by rfl) rfl ?hx8 (fun wq hSq => ?y8) ?n8; (case hx8 => simp only [Act.eval, zM]; try rfl); (case y8 => (have ksq := hSq.at ks (fun h => h); have kgq := hSq.at kg (fun h => h); go_simp; (try with_reducible rfl))); try simp only [Act.put, zL])
 (refine TD.val0 (v := ?v9) (by simp only [zK]; rfl) rfl (by rfl) (fun w1 => ?y9) ?n9; (case y9 => go_simp; try with_reducible rfl); try simp only [Act.put, zL])
 (refine TD.val0 (v := ?v10) (by simp only [zK]; rfl) rfl (by rfl) (fun w1 => ?y10) ?n10; (case y10 => go_simp; try with_reducible rfl); try simp only [Act.put, zL])
 (refine TD.load (v := ?v11) (p := ?p11) (Mod.refl _ _) (by simp only [zK]; rfl) rfl (by rfl) rfl ?hx11 (fun wq hSq => ?y11) ?n11; (case hx11 => simp only [Act.eval, zM]; try rfl); (case y11 => (have ksq := hSq.at ks (fun h => h); have kgq := hSq.at kg (fun h => h); go_simp; (try with_reducible rfl))); try simp only [Act.put, zL])
 (refine TD.val0 (v := ?v12) (by simp only [zK]; rfl) rfl (by rfl) (fun w1 => ?y12) ?n12; (case y12 => go_simp; try with_reducible rfl); try simp only [Act.put, zL])
 (refine TD.val0 (v := ?v13) (by simp only [zK]; rfl) rfl (by rfl) (fun w1 => ?y13) ?n13; (case y13 => go_simp; try with_reducible rfl); try simp only [Act.put, zL])
 (refine TD.val0 (v := ?v14) (by simp only [zK]; rfl) rfl (by rfl) (fun w1 => ?y14) ?n14; (case y14 => go_simp; try with_reducible rfl); try simp only [Act.put, zL])
 (refine TD.load (v := ?v15) (p := ?p15) (Mod.refl _ _) (by simp only [zK]; rfl) rfl (by rfl) rfl ?hx15 (fun wq hSq => ?y15) ?n15; (case hx15 => simp only [Act.eval, zM]; try rfl); (case y15 => (have ksq := hSq.at ks (fun h => h); have kgq := hSq.at kg (fun h => h); go_simp; (try with_reducible rfl))); try simp only [Act.put, zL])
 (refine TD.val0 (v := ?v16) (by simp only [zK]; rfl) rfl (by rfl) (fun w1 => ?y16) ?n16; (case y16 => go_simp; try with_reducible rfl); try simp only [Act.put, zL])
 (refine TD.val0 (v := ?v17) (by simp only [zK]; rfl) rfl (by rfl) (fun w1 => ?y17) ?n17; (case y17 => go_simp; try with_reducible rfl); try simp only [Act.put, zL])
 (refine TD.load (v := ?v18) (p := ?p18) (Mod.refl _ _) (by simp only [zK]; rfl) rfl (by rfl) rfl ?hx18 (fun wq hSq => ?y18) ?n18; (case hx18 => simp only [Act.eval, zM]; try rfl); (case y18 => (have ksq := hSq.at ks (fun h => h); have kgq := hSq.at kg (fun h => h); go_simp; (try with_reducible rfl))); try simp only [Act.put, zL])
 (refine TD.call (f := ?f19) (args := ?r19) (Mod.refl _ _) (by simp only [zK]; rfl) rfl (by rfl) (fun w1 => ?y19) ?hsp19 ?n19; (case y19 => (go_simp; (first | with_reducible rfl | (constructor <;> with_reducible rfl)))); (case hsp19 => (intro wq hSq; have ksq := hSq.at ks (fun h => h); have kgq := hSq.at kg (fun h => h); exact (HC.out wq hSq).mono (fun e w' h => ⟨_, h.1, rfl, h.2⟩))); rintro _ rfl; try simp only [Act.put, zL])
 (refine TD.val0 (v := ?v20) (by simp only [zK]; rfl) rfl (by rfl) (fun w1 => ?y20) ?n20; (case y20 => go_simp; try with_reducible rfl); try simp only [Act.put, zL])
 refine TD.nil (fun w2 hr => ?_)
 have ks := hr.mod.at ks (fun h => h)
 have kg := hr.mod.at kg (fun h => h)
 have m2 := hr.mod
 go_wp2_with fail
 go_ret
 exact ⟨rfl, m2⟩
end
section
variable {P : Program} {ops : Array Oper} {Q : Exit → Act → World → Prop} {κ : Nat → Nat}
theorem TE.mid_set {r : List Nat} {a : Act} {w : World} {p : Nat} {o o' : Obj} (hb : w.heap[p]? = some o) (h : ∀ w', w'.heap[p]? = some o' → Mod (fun i => i = p) w w' → TE P ops Q κ r a w') : TE P ops Q κ r a (setBlock w p o') :=
 h _ (heap_setBlock w _ (lt_size hb)) (mod_set w p o')
theorem TE.mid_setCell {r : List Nat} {a : Act} {w : World} {p i : Nat} {cs : Array Value} {U : TypeId} {fr : Nat × Nat} {v : Value} (hb : w.heap[p]? = some (.cells cs U fr))
  (h : ∀ w', w'.heap[p]? = some (.cells (cs.setIfInBounds i v) U fr) → Mod (fun i => i = p) w w' → TE P ops Q κ r a w') : TE P ops Q κ r a (w.setCell ⟨p, i, none⟩ v) := by
 rw [setCell_blk hb]
 exact TE.mid_set hb h
end
section
variable {w w' : World} {s : Nat} {k : Bool} {v : Value} {L : List Nat} {nd : Nat → Nd} {o : Nat → Int}
set_option maxHeartbeats 3200000 in
theorem swap_c (h : Sd w s k v L nd o) {i j : Nat} (hi : i < L.length) (hj : j < L.length) (hij : i ≠ j) : Calls Tryz.prog 134 #[ptrV s, .int .i64 (i : Int), .int .i64 (j : Int)] w fun e w' =>
  e = .returned (.tuple #[]) ∧ Sd w' s k v (swapL L i j) nd o ∧ Mod (fun x => v.ownBlock = some x ∨ x ∈ L) w w' := by
 have H := Lib.hid h
 obtain ⟨a, ha⟩ : ∃ a, L[i]? = some a := ⟨_, List.getElem?_eq_getElem hi⟩
 obtain ⟨b, hb⟩ : ∃ b, L[j]? = some b := ⟨_, List.getElem?_eq_getElem hj⟩
 obtain ⟨g, cap, cur, rfl, _, kg, hcap, hcs, hcur, hback⟩ := own_row h.own (fun e => by rw [e] at hi; cases hi)
 have hab : a ≠ b := fun e => hij (by
  subst e
  exact (List.getElem?_inj hi h.nodup).1 (by rw [ha, hb]))
 have ks := h.side
 have ka := h.nodes i a ha
 have kb := h.nodes j b hb
 have hsg : s ≠ g := ne_of_obj ks kg (obj_ty (by decide))
 have hag : a ≠ g := ne_of_obj ka kg (obj_ty (by decide))
 have hbg : b ≠ g := ne_of_obj kb kg (obj_ty (by decide))
 have has : a ≠ s := ne_of_obj ka ks (obj_ty (by decide))
 have hbs : b ≠ s := ne_of_obj kb ks (obj_ty (by decide))
 have ci := hcur i a ha
 have cj := hcur j b hb
 have HA := Lib.hid ha
 have HB := Lib.hid hb
 have HCUR := Lib.hid hcur
 have HBACK := Lib.hid hback
 have KG0 := Lib.hid kg
 clear h hcur hback ha hb
 go_enter Tryz.func134, Tryz.ntmps134
 have cj2 : (cur.setIfInBounds i (ptrV b))[j]? = some (ptrV b) := by rw [Array.getElem?_setIfInBounds_ne hij, cj]
 go_upto_region 0 with fail
 have Lks := lt_size ks
 have Lkg := lt_size kg
 have Lka := lt_size ka
 have Lkb := lt_size kb
 refine wp_pass (C := fun _ _ _ => False) (κ := fun i => [0, 0, 0, 1, 0, 0, 0, 0, 1, 0, 0, 0, 0, 1, 0, 0, 1, 0, 0, 0, 1, 0, 0, 1, 0, 5, 0, 6].getD i 0) [0, 1, 2, 3, 4, 5, 6, 7, 8, 9, 10, 11, 12, 13, 14, 15, 16, 17, 18, 19, 20, 21, 22, 23, 24, 25, 26, 27] (by kernel_rfl) (by kernel_rfl) (fun _ _ d _ _ h => by cases d <;> first | exact h | exact absurd h (hP _ _ _)) ?_
 (refine TD.val0 (v := ?v21) (by simp only [zK]; rfl) rfl (by rfl) (fun w1 => ?y21) ?n21; (case y21 => go_simp; try with_reducible rfl); try simp only [Act.put, zL])
 (refine TD.val0 (v := ?v22) (by simp only [zK]; rfl) rfl (by rfl) (fun w1 => ?y22) ?n22; (case y22 => go_simp; try with_reducible rfl); try simp only [Act.put, zL])
 (refine TD.val0 (v := ?v23) (by simp only [zK]; rfl) rfl (by rfl) (fun w1 => ?y23) ?n23; (case y23 => go_simp; try with_reducible rfl); try simp only [Act.put, zL])
 (refine TD.load (v := ?v24) (p := ?p24) (Mod.refl _ _) (by simp only [zK]; rfl) rfl (by rfl) rfl ?hx24 (fun wq hSq => ?y24) ?n24; (case hx24 => simp only [Act.eval, zM]; try rfl); (case y24 => (have ksq := hSq.at ks (fun h => h); have kgq := hSq.at kg (fun h => h); have kaq := hSq.at ka (fun h => h); have kbq := hSq.at kb (fun h => h); go_simp; (try with_reducible rfl))); try simp only [Act.put, zL])
 (refine TD.val0 (v := ?v25) (by simp only [zK]; rfl) rfl (by rfl) (fun w1 => ?y25) ?n25; (case y25 => go_simp; try with_reducible rfl); try simp only [Act.put, zL])
 (refine TD.val0 (v := ?v26) (by simp only [zK]; rfl) rfl (by rfl) (fun w1 => ?y26) ?n26; (case y26 => go_simp; try with_reducible rfl); try simp only [Act.put, zL])
 (refine TD.val0 (v := ?v27) (by simp only [zK]; rfl) rfl (by rfl) (fun w1 => ?y27) ?n27; (case y27 => go_simp; try with_reducible rfl); try simp only [Act.put, zL])
 (refine TD.val0 (v := ?v28) (by simp only [zK]; rfl) rfl (by rfl) (fun w1 => ?y28) ?n28; (case y28 => go_simp; try with_reducible rfl); try simp only [Act.put, zL])
 (refine TD.load (v := ?v29) (p := ?p29) (Mod.refl _ _) (by simp only [zK]; rfl) rfl (by rfl) rfl ?hx29 (fun wq hSq => ?y29) ?n29; (case hx29 => simp only [Act.eval, zM]; try rfl); (case y29 => (have ksq := hSq.at ks (fun h => h); have kgq := hSq.at kg (fun h => h); have kaq := hSq.at ka (fun h => h); have kbq := hSq.at kb (fun h => h); go_simp; (try with_reducible rfl))); try simp only [Act.put, zL])
 (refine TD.val0 (v := ?v30) (by simp only [zK]; rfl) rfl (by rfl) (fun w1 => ?y30) ?n30; (case y30 => go_simp; try with_reducible rfl); try simp only [Act.put, zL])
 (refine TD.val0 (v := ?v31) (by simp only [zK]; rfl) rfl (by rfl) (fun w1 => ?y31) ?n31; (case y31 => go_simp; try with_reducible rfl); try simp only [Act.put, zL])
 (refine TD.val0 (v := ?v32) (by simp only [zK]; rfl) rfl (by rfl) (fun w1 => ?y32) ?n32; (case y32 => go_simp; try with_reducible rfl); try simp only [Act.put, zL])
 (refine TD.val0 (v := ?v33) (by simp only [zK]; rfl) rfl (by rfl) (fun w1 => ?y33) ?n33; (case y33 => go_simp; try with_reducible rfl); try simp only [Act.put, zL])
 (refine TD.load (v := ?v34) (p := ?p34) (Mod.refl _ _) (by simp only [zK]; rfl) rfl (by rfl) rfl ?hx34 (fun wq hSq => ?y34) ?n34; (case hx34 => simp only [Act.eval, zM]; try rfl); (case y34 => (have ksq := hSq.at ks (fun h => h); have kgq := hSq.at kg (fun h => h); have kaq := hSq.at ka (fun h => h); have kbq := hSq.at kb (fun h => h); go_simp; (try with_reducible rfl))); try simp only [Act.put, zL])
 (refine TD.val0 (v := ?v35) (by simp only [zK]; rfl) rfl (by rfl) (fun w1 => ?y35) ?n35; (case y35 => go_simp; try with_reducible rfl); try simp only [Act.put, zL])
 (refine TD.val0 (v := ?v36) (by simp only [zK]; rfl) rfl (by rfl) (fun w1 => ?y36) ?n36; (case y36 => go_simp; try with_reducible rfl); try simp only [Act.put, zL])
 (refine TD.load (v := ?v37) (p := ?p37) (Mod.refl _ _) (by simp only [zK]; rfl) rfl (by rfl) rfl ?hx37 (fun wq hSq => ?y37) ?n37; (case hx37 => simp only [Act.eval, zM]; try rfl); (case y37 => (have ksq := hSq.at ks (fun h => h); have kgq := hSq.at kg (fun h => h); have kaq := hSq.at ka (fun h => h); have kbq := hSq.at kb (fun h => h); go_simp; (try with_reducible rfl))); try simp only [Act.put, zL])
 (refine TD.val0 (v := ?v38) (by simp only [zK]; rfl) rfl (by rfl) (fun w1 => ?y38) ?n38; (case y38 => go_simp; try with_reducible rfl); try simp only [Act.put, zL])
 (refine TD.val0 (v := ?v39) (by simp only [zK]; rfl) rfl (by rfl) (fun w1 => ?y39) ?n39; (case y39 => go_simp; try with_reducible rfl); try simp only [Act.put, zL])
 (refine TD.val0 (v := ?v40) (by simp only [zK]; rfl) rfl (by rfl) (fun w1 => ?y40) ?n40; (case y40 => go_simp; try with_reducible rfl); try simp only [Act.put, zL])
 (refine TD.load (v := ?v41) (p := ?p41) (Mod.refl _ _) (by simp only [zK]; rfl) rfl (by rfl) rfl ?hx41 (fun wq hSq => ?y41) ?n41; (case hx41 => simp only [Act.eval, zM]; try rfl); (case y41 => (have ksq := hSq.at ks (fun h => h); have kgq := hSq.at kg (fun h => h); have kaq := hSq.at ka (fun h => h); have kbq := hSq.at kb (fun h => h); go_simp; (try with_reducible rfl))); try simp only [Act.put, zL])
 (refine TD.val0 (v := ?v42) (by simp only [zK]; rfl) rfl (by rfl) (fun w1 => ?y42) ?n42; (case y42 => go_simp; try with_reducible rfl); try simp only [Act.put, zL])
 (refine TD.val0 (v := ?v43) (by simp only [zK]; rfl) rfl (by rfl) (fun w1 => ?y43) ?n43; (case y43 => go_simp; try with_reducible rfl); try simp only [Act.put, zL])
 (refine TD.load (v := ?v44) (p := ?p44) (Mod.refl _ _) (by simp only [zK]; rfl) rfl (by rfl) rfl ?hx44 (fun wq hSq => ?y44) ?n44; (case hx44 => simp only [Act.eval, zM]; try rfl); (case y44 => (have ksq := hSq.at ks (fun h => h); have kgq := hSq.at kg (fun h => h); have kaq := hSq.at ka (fun h => h); have kbq := hSq.at kb (fun h => h); go_simp; (try with_reducible rfl))); try simp only [Act.put, zL])
 (refine TD.val0 (v := ?v45) (by simp only [zK]; rfl) rfl (by rfl) (fun w1 => ?y45) ?n45; (case y45 => go_simp; try with_reducible rfl); try simp only [Act.put, zL])
 refine TD.eff (by simp only [zK]; rfl) rfl (fun w2 hr => ?_)
 have ks := hr.mod.at ks (fun h => h)
 have kg := hr.mod.at kg (fun h => h)
 have ka := hr.mod.at ka (fun h => h)
 have kb := hr.mod.at kb (fun h => h)
 (refine eff_store (X := ?X47) (Y := ?Y47) (w' := ?w47) (by simp only [zK]; rfl) (by rfl) rfl ?hx47 ?hz47 ?y47 ?n47; (case hx47 => simp only [Act.eval, zM]; try rfl); (case hz47 => simp only [Act.eval, zM]; try rfl); (case y47 => go_simp; try with_reducible rfl))
 (first | refine TE.mid_set kg (fun wn kg mS => ?_) | refine TE.mid_setCell kg (fun wn kg mS => ?_))
 have m3 := hr.mod.then0 (Mod.refl _ _)
 have m3 := (hr.mod.mono (fun _ _ h => h.elim)).then mS (fun i _ e => e)
 (refine TE.val0 (v := ?v48) (by simp only [zK]; rfl) (by rfl) (fun w1 => ?y48) ?n48; (case y48 => go_simp; try with_reducible rfl); try simp only [Act.put, zL])
 refine TE.step (by simp only [zK]; rfl) rfl ?_
 (refine eff_store (X := ?X49) (Y := ?Y49) (w' := ?w49) (by simp only [zK]; rfl) (by rfl) rfl ?hx49 ?hz49 ?y49 ?n49; (case hx49 => simp only [Act.eval, zM]; try rfl); (case hz49 => simp only [Act.eval, zM]; try rfl); (case y49 => go_simp; try with_reducible rfl))
 (first | refine TE.nil_set kg (fun wn kg mS => ?_) | refine TE.nil_setCell kg (fun wn kg mS => ?_))
 have m4 := m3.then mS (fun i _ e => e)
 have c2i : ((cur.setIfInBounds i (ptrV b)).setIfInBounds j (ptrV a))[i]? = some (ptrV b) := by
  rw [Array.getElem?_setIfInBounds_ne (Ne.symm hij), Array.getElem?_setIfInBounds_self_of_lt (by omega)]
 have c2j : ((cur.setIfInBounds i (ptrV b)).setIfInBounds j (ptrV a))[j]? = some (ptrV a) := by
  rw [Array.getElem?_setIfInBounds_self_of_lt (by rw [Array.size_setIfInBounds]; omega)]
 have hcs2 : ((cur.setIfInBounds i (ptrV b)).setIfInBounds j (ptrV a)).size = cur.size := by simp
 have HC2 : Hid (∀ (c x : Nat), (swapL L i j)[c]? = some x → ((cur.setIfInBounds i (ptrV b)).setIfInBounds j (ptrV a))[c]? = some (ptrV x)) := Lib.hid (fun c x hx => by
  rw [swapL_get hi hj] at hx
  by_cases h1 : c = j
  ·subst h1
   rw [if_pos rfl, HA.out] at hx
   cases hx
   exact c2j
  ·rw [if_neg h1] at hx
   rw [Array.getElem?_setIfInBounds_ne (Ne.symm h1)]
   by_cases h2 : c = i
   ·subst h2
    rw [if_pos rfl, HB.out] at hx
    cases hx
    rw [Array.getElem?_setIfInBounds_self_of_lt (by omega)]
   ·rw [if_neg h2] at hx
    rw [Array.getElem?_setIfInBounds_ne (Ne.symm h2)]
    exact HCUR.out c x hx)
 generalize (cur.setIfInBounds i (ptrV b)).setIfInBounds j (ptrV a) = cur2 at *
 replace ks := m4.at H.out.side hsg
 replace ka := m4.at (H.out.nodes i a HA.out) hag
 replace kb := m4.at (H.out.nodes j b HB.out) hbg
 clear cj2 ci cj hcs
 cases k
 ·
  replace ka := show _ = some (Obj.cells (ndc false (nd a) i (o a)) _ _) from ka
  replace kb := show _ = some (Obj.cells (ndc false (nd b) j (o b)) _ _) from kb
  simp only [ndc, if_true, if_false, Bool.false_eq_true] at ka kb
  simp only [sdc, kn, if_true, if_false, Bool.false_eq_true] at ks
  go_upto_region 1 with fail
  have Lks := lt_size ks
  have Lkg := lt_size kg
  have Lka := lt_size ka
  have Lkb := lt_size kb
  refine wp_pass (C := fun _ _ _ => False) (κ := fun i => [0, 0, 0, 1, 0, 0, 1, 0, 0, 0, 1, 0, 0, 0, 1, 0, 0, 1, 0, 0, 0, 1, 0, 0, 0, 0, 0, 5, 0, 0, 0, 6].getD i 0) [0, 1, 2, 3, 4, 5, 6, 7, 8, 9, 10, 11, 12, 13, 14, 15, 16, 17, 18, 19, 20, 21, 22, 23, 24, 25, 26, 28, 29, 27, 30, 31] (by kernel_rfl) (by kernel_rfl) (fun _ _ d _ _ h => by cases d <;> first | exact h | exact absurd h (hP _ _ _)) ?_
  (refine TD.val0 (v := ?v50) (by simp only [zK]; rfl) rfl (by rfl) (fun w1 => ?y50) ?n50; (case y50 => go_simp; try with_reducible rfl); try simp only [Act.put, zL])
  (refine TD.val0 (v := ?v51) (by simp only [zK]; rfl) rfl (by rfl) (fun w1 => ?y51) ?n51; (case y51 => go_simp; try with_reducible rfl); try simp only [Act.put, zL])
  (refine TD.val0 (v := ?v52) (by simp only [zK]; rfl) rfl (by rfl) (fun w1 => ?y52) ?n52; (case y52 => go_simp; try with_reducible rfl); try simp only [Act.put, zL])
  (refine TD.load (v := ?v53) (p := ?p53) (Mod.refl _ _) (by simp only [zK]; rfl) rfl (by rfl) rfl ?hx53 (fun wq hSq => ?y53) ?n53; (case hx53 => simp only [Act.eval, zM]; try rfl); (case y53 => (have ksq := hSq.at ks (fun h => h); have kgq := hSq.at kg (fun h => h); have kaq := hSq.at ka (fun h => h); have kbq := hSq.at kb (fun h => h); go_simp; (try with_reducible rfl))); try simp only [Act.put, zL])
  (refine TD.val0 (v := ?v54) (by simp only [zK]; rfl) rfl (by rfl) (fun w1 => ?y54) ?n54; (case y54 => go_simp; try with_reducible rfl); try simp only [Act.put, zL])
  (refine TD.val0 (v := ?v55) (by simp only [zK]; rfl) rfl (by rfl) (fun w1 => ?y55) ?n55; (case y55 => go_simp; try with_reducible rfl); try simp only [Act.put, zL])
  (refine TD.load (v := ?v56) (p := ?p56) (Mod.refl _ _) (by simp only [zK]; rfl) rfl (by rfl) rfl ?hx56 (fun wq hSq => ?y56) ?n56; (case hx56 => simp only [Act.eval, zM]; try rfl); (case y56 => (have ksq := hSq.at ks (fun h => h); have kgq := hSq.at kg (fun h => h); have kaq := hSq.at ka (fun h => h); have kbq := hSq.at kb (fun h => h); go_simp; (try with_reducible rfl))); try simp only [Act.put, zL])
  (refine TD.val0 (v := ?v57) (by simp only [zK]; rfl) rfl (by rfl) (fun w1 => ?y57) ?n57; (case y57 => go_simp; try with_reducible rfl); try simp only [Act.put, zL])
  (refine TD.val0 (v := ?v58) (by simp only [zK]; rfl) rfl (by rfl) (fun w1 => ?y58) ?n58; (case y58 => go_simp; try with_reducible rfl); try simp only [Act.put, zL])
  (refine TD.val0 (v := ?v59) (by simp only [zK]; rfl) rfl (by rfl) (fun w1 => ?y59) ?n59; (case y59 => go_simp; try with_reducible rfl); try simp only [Act.put, zL])
  (refine TD.load (v := ?v60) (p := ?p60) (Mod.refl _ _) (by simp only [zK]; rfl) rfl (by rfl) rfl ?hx60 (fun wq hSq => ?y60) ?n60; (case hx60 => simp only [Act.eval, zM]; try rfl); (case y60 => (have ksq := hSq.at ks (fun h => h); have kgq := hSq.at kg (fun h => h); have kaq := hSq.at ka (fun h => h); have kbq := hSq.at kb (fun h => h); go_simp; (try with_reducible rfl))); try simp only [Act.put, zL])
  (refine TD.val0 (v := ?v61) (by simp only [zK]; rfl) rfl (by rfl) (fun w1 => ?y61) ?n61; (case y61 => go_simp; try with_reducible rfl); try simp only [Act.put, zL])
  (refine TD.val0 (v := ?v62) (by simp only [zK]; rfl) rfl (by rfl) (fun w1 => ?y62) ?n62; (case y62 => go_simp; try with_reducible rfl); try simp only [Act.put, zL])
  (refine TD.val0 (v := ?v63) (by simp only [zK]; rfl) rfl (by rfl) (fun w1 => ?y63) ?n63; (case y63 => go_simp; try with_reducible rfl); try simp only [Act.put, zL])
  (refine TD.load (v := ?v64) (p := ?p64) (Mod.refl _ _) (by simp only [zK]; rfl) rfl (by rfl) rfl ?hx64 (fun wq hSq => ?y64) ?n64; (case hx64 => simp only [Act.eval, zM]; try rfl); (case y64 => (have ksq := hSq.at ks (fun h => h); have kgq := hSq.at kg (fun h => h); have kaq := hSq.at ka (fun h => h); have kbq := hSq.at kb (fun h => h); go_simp; (try with_reducible rfl))); try simp only [Act.put, zL])
  (refine TD.val0 (v := ?v65) (by simp only [zK]; rfl) rfl (by rfl) (fun w1 => ?y65) ?n65; (case y65 => go_simp; try with_reducible rfl); try simp only [Act.put, zL])
  (refine TD.val0 (v := ?v66) (by simp only [zK]; rfl) rfl (by rfl) (fun w1 => ?y66) ?n66; (case y66 => go_simp; try with_reducible rfl); try simp only [Act.put, zL])
  (refine TD.load (v := ?v67) (p := ?p67) (Mod.refl _ _) (by simp only [zK]; rfl) rfl (by rfl) rfl ?hx67 (fun wq hSq => ?y67) ?n67; (case hx67 => simp only [Act.eval, zM]; try rfl); (case y67 => (have ksq := hSq.at ks (fun h => h); have kgq := hSq.at kg (fun h => h); have kaq := hSq.at ka (fun h => h); have kbq := hSq.at kb (fun h => h); go_simp; (try with_reducible rfl))); try simp only [Act.put, zL])
  (refine TD.val0 (v := ?v68) (by simp only [zK]; rfl) rfl (by rfl) (fun w1 => ?y68) ?n68; (case y68 => go_simp; try with_reducible rfl); try simp only [Act.put, zL])
  (refine TD.val0 (v := ?v69) (by simp only [zK]; rfl) rfl (by rfl) (fun w1 => ?y69) ?n69; (case y69 => go_simp; try with_reducible rfl); try simp only [Act.put, zL])
  (refine TD.val0 (v := ?v70) (by simp only [zK]; rfl) rfl (by rfl) (fun w1 => ?y70) ?n70; (case y70 => go_simp; try with_reducible rfl); try simp only [Act.put, zL])
  (refine TD.load (v := ?v71) (p := ?p71) (Mod.refl _ _) (by simp only [zK]; rfl) rfl (by rfl) rfl ?hx71 (fun wq hSq => ?y71) ?n71; (case hx71 => simp only [Act.eval, zM]; try rfl); (case y71 => (have ksq := hSq.at ks (fun h => h); have kgq := hSq.at kg (fun h => h); have kaq := hSq.at ka (fun h => h); have kbq := hSq.at kb (fun h => h); go_simp; (try with_reducible rfl))); try simp only [Act.put, zL])
  (refine TD.val0 (v := ?v72) (by simp only [zK]; rfl) rfl (by rfl) (fun w1 => ?y72) ?n72; (case y72 => go_simp; try with_reducible rfl); try simp only [Act.put, zL])
  (refine TD.val0 (v := ?v73) (by simp only [zK]; rfl) rfl (by rfl) (fun w1 => ?y73) ?n73; (case y73 => go_simp; try with_reducible rfl); try simp only [Act.put, zL])
  (refine TD.val0 (v := ?v74) (by simp only [zK]; rfl) rfl (by rfl) (fun w1 => ?y74) ?n74; (case y74 => go_simp; try with_reducible rfl); try simp only [Act.put, zL])
  (refine TD.val0 (v := ?v75) (by simp only [zK]; rfl) rfl (by rfl) (fun w1 => ?y75) ?n75; (case y75 => go_simp; try with_reducible rfl); try simp only [Act.put, zL])
  (refine TD.val0 (v := ?v76) (by simp only [zK]; rfl) rfl (by rfl) (fun w1 => ?y76) ?n76; (case y76 => go_simp; try with_reducible rfl); try simp only [Act.put, zL])
  (refine TD.val0 (v := ?v77) (by simp only [zK]; rfl) rfl (by rfl) (fun w1 => ?y77) ?n77; (case y77 => go_simp; try with_reducible rfl); try simp only [Act.put, zL])
  (refine TD.val0 (v := ?v78) (by simp only [zK]; rfl) rfl (by rfl) (fun w1 => ?y78) ?n78; (case y78 => go_simp; try with_reducible rfl); try simp only [Act.put, zL])
  refine TD.eff (by simp only [zK]; rfl) rfl (fun w5 hr => ?_)
  have ks := hr.mod.at ks (fun h => h)
  have kg := hr.mod.at kg (fun h => h)
  have ka := hr.mod.at ka (fun h => h)
  have kb := hr.mod.at kb (fun h => h)
  have m5 := m4.then0 hr.mod
  (refine eff_store (X := ?X80) (Y := ?Y80) (w' := ?w80) (by simp only [zK]; rfl) (by rfl) rfl ?hx80 ?hz80 ?y80 ?n80; (case hx80 => simp only [Act.eval, zM]; try rfl); (case hz80 => simp only [Act.eval, zM]; try rfl); (case y80 => go_simp; try with_reducible rfl))
  (first | refine TE.mid_set kb (fun wn kb mS => ?_) | refine TE.mid_setCell kb (fun wn kb mS => ?_))
  (try simp only [Array.setIfInBounds, zL] at kb)
  have m6 : Mod (fun i => i = g ∨ i = b) w wn := (m5.mono (fun i _ e => .inl e)).then mS (fun i _ e => .inr e)
  replace ka := mS.at_ne ka hab
  replace kg := mS.at_ne kg (Ne.symm hbg)
  (refine TE.val0 (v := ?v81) (by simp only [zK]; rfl) (by rfl) (fun w1 => ?y81) ?n81; (case y81 => go_simp; try with_reducible rfl); try simp only [Act.put, zL])
  refine TE.step (by simp only [zK]; rfl) rfl ?_
  (refine eff_store (X := ?X82) (Y := ?Y82) (w' := ?w82) (by simp only [zK]; rfl) (by rfl) rfl ?hx82 ?hz82 ?y82 ?n82; (case hx82 => simp only [Act.eval, zM]; try rfl); (case hz82 => simp only [Act.eval, zM]; try rfl); (case y82 => go_simp; try with_reducible rfl))
  (first | refine TE.nil_set ka (fun wn ka mS => ?_) | refine TE.nil_setCell ka (fun wn ka mS => ?_))
  (try simp only [Array.setIfInBounds, zL] at ka)
  have m7 : Mod (fun i => i = g ∨ i = b ∨ i = a) w wn := (m6.mono (fun i _ e => e.elim .inl (fun h => .inr (.inl h)))).then mS (fun i _ e => .inr (.inr e))
  replace kb := mS.at_ne kb (Ne.symm hab)
  replace kg := mS.at_ne kg (Ne.symm hag)
  replace ks := m7.at H.out.side (fun e => by rcases e with e | e | e; exact hsg e; exact hbs e.symm; exact has e.symm)
  clear hr
  go_wp2_with fail
  go_end0
  refine ⟨rfl, ⟨ks, HBACK.out _ _ _ kg hcs2 (swapL_length _ _) HC2.out, fun c x hx => ?_⟩, m7.mono (fun t _ e => ?_)⟩
  ·rw [swapL_get hi hj] at hx
   by_cases h1 : c = j
   ·subst h1
    rw [if_pos rfl, HA.out] at hx
    cases hx
    exact ka
   ·rw [if_neg h1] at hx
    by_cases h2 : c = i
    ·subst h2
     rw [if_pos rfl, HB.out] at hx
     cases hx
     exact kb
    ·rw [if_neg h2] at hx
     have h3 := H.out.nodes c x hx
     refine m7.at h3 (fun e => ?_)
     rcases e with e | e | e
     ·exact (ne_of_obj h3 KG0.out (obj_ty (by decide))) e
     ·exact h1 ((List.getElem?_inj hj H.out.nodup).1 (by rw [hx, HB.out, e])).symm
     ·exact h2 ((List.getElem?_inj hi H.out.nodup).1 (by rw [hx, HA.out, e])).symm
  ·rcases e with rfl | rfl | rfl
   ·exact .inl rfl
   ·exact .inr (List.mem_of_getElem? HB.out)
   ·exact .inr (List.mem_of_getElem? HA.out)
 ·
  replace ka := show _ = some (Obj.cells (ndc true (nd a) i (o a)) _ _) from ka
  replace kb := show _ = some (Obj.cells (ndc true (nd b) j (o b)) _ _) from kb
  simp only [ndc, if_true, if_false, Bool.false_eq_true] at ka kb
  simp only [sdc, kn, if_true, if_false, Bool.false_eq_true] at ks
  go_upto_region 1 with fail
  have Lks := lt_size ks
  have Lkg := lt_size kg
  have Lka := lt_size ka
  have Lkb := lt_size kb
  refine wp_pass (C := fun _ _ _ => False) (κ := fun i => [0, 0, 0, 1, 0, 0, 1, 0, 0, 0, 1, 0, 0, 0, 1, 0, 0, 1, 0, 0, 0, 1, 0, 0, 0, 0, 0, 5, 0, 0, 0, 6].getD i 0) [0, 1, 2, 3, 4, 5, 6, 7, 8, 9, 10, 11, 12, 13, 14, 15, 16, 17, 18, 19, 20, 21, 22, 23, 24, 25, 26, 28, 29, 27, 30, 31] (by kernel_rfl) (by kernel_rfl) (fun _ _ d _ _ h => by cases d <;> first | exact h | exact absurd h (hP _ _ _)) ?_
  (refine TD.val0 (v := ?v83) (by simp only [zK]; rfl) rfl (by rfl) (fun w1 => ?y83) ?n83; (case y83 => go_simp; try with_reducible rfl); try simp only [Act.put, zL])
  (refine TD.val0 (v := ?v84) (by simp only [zK]; rfl) rfl (by rfl) (fun w1 => ?y84) ?n84; (case y84 => go_simp; try with_reducible rfl); try simp only [Act.put, zL])
  (refine TD.val0 (v := ?v85) (by simp only [zK]; rfl) rfl (by rfl) (fun w1 => ?y85) ?n85; (case y85 => go_simp; try with_reducible rfl); try simp only [Act.put, zL])
  (refine TD.load (v := ?v86) (p := ?p86) (Mod.refl _ _) (by simp only [zK]; rfl) rfl (by rfl) rfl ?hx86 (fun wq hSq => ?y86) ?n86; (case hx86 => simp only [Act.eval, zM]; try rfl); (case y86 => (have ksq := hSq.at ks (fun h => h); have kgq := hSq.at kg (fun h => h); have kaq := hSq.at ka (fun h => h); have kbq := hSq.at kb (fun h => h); go_simp; (try with_reducible rfl))); try simp only [Act.put, zL])
  (refine TD.val0 (v := ?v87) (by simp only [zK]; rfl) rfl (by rfl) (fun w1 => ?y87) ?n87; (case y87 => go_simp; try with_reducible rfl); try simp only [Act.put, zL])
  (refine TD.val0 (v := ?v88) (by simp only [zK]; rfl) rfl (by rfl) (fun w1 => ?y88) ?n88; (case y88 => go_simp; try with_reducible rfl); try simp only [Act.put, zL])
  (refine TD.load (v := ?v89) (p := ?p89) (Mod.refl _ _) (by simp only [zK]; rfl) rfl (by rfl) rfl ?hx89 (fun wq hSq => ?y89) ?n89; (case hx89 => simp only [Act.eval, zM]; try rfl); (case y89 => (have ksq := hSq.at ks (fun h => h); have kgq := hSq.at kg (fun h => h); have kaq := hSq.at ka (fun h => h); have kbq := hSq.at kb (fun h => h); go_simp; (try with_reducible rfl))); try simp only [Act.put, zL])
  (refine TD.val0 (v := ?v90) (by simp only [zK]; rfl) rfl (by rfl) (fun w1 => ?y90) ?n90; (case y90 => go_simp; try with_reducible rfl); try simp only [Act.put, zL])
  (refine TD.val0 (v := ?v91) (by simp only [zK]; rfl) rfl (by rfl) (fun w1 => ?y91) ?n91; (case y91 => go_simp; try with_reducible rfl); try simp only [Act.put, zL])
  (refine TD.val0 (v := ?v92) (by simp only [zK]; rfl) rfl (by rfl) (fun w1 => ?y92) ?n92; (case y92 => go_simp; try with_reducible rfl); try simp only [Act.put, zL])
  (refine TD.load (v := ?v93) (p := ?p93) (Mod.refl _ _) (by simp only [zK]; rfl) rfl (by rfl) rfl ?hx93 (fun wq hSq => ?y93) ?n93; (case hx93 => simp only [Act.eval, zM]; try rfl); (case y93 => (have ksq := hSq.at ks (fun h => h); have kgq := hSq.at kg (fun h => h); have kaq := hSq.at ka (fun h => h); have kbq := hSq.at kb (fun h => h); go_simp; (try with_reducible rfl))); try simp only [Act.put, zL])
  (refine TD.val0 (v := ?v94) (by simp only [zK]; rfl) rfl (by rfl) (fun w1 => ?y94) ?n94; (case y94 => go_simp; try with_reducible rfl); try simp only [Act.put, zL])
  (refine TD.val0 (v := ?v95) (by simp only [zK]; rfl) rfl (by rfl) (fun w1 => ?y95) ?n95; (case y95 => go_simp; try with_reducible rfl); try simp only [Act.put, zL])
  (refine TD.val0 (v := ?v96) (by simp only [zK]; rfl) rfl (by rfl) (fun w1 => ?y96) ?n96; (case y96 => go_simp; try with_reducible rfl); try simp only [Act.put, zL])
  (refine TD.load (v := ?v97) (p := ?p97) (Mod.refl _ _) (by simp only [zK]; rfl) rfl (by rfl) rfl ?hx97 (fun wq hSq => ?y97) ?n97; (case hx97 => simp only [Act.eval, zM]; try rfl); (case y97 => (have ksq := hSq.at ks (fun h => h); have kgq := hSq.at kg (fun h => h); have kaq := hSq.at ka (fun h => h); have kbq := hSq.at kb (fun h => h); go_simp; (try with_reducible rfl))); try simp only [Act.put, zL])
  (refine TD.val0 (v := ?v98) (by simp only [zK]; rfl) rfl (by rfl) (fun w1 => ?y98) ?n98; (case y98 => go_simp; try with_reducible rfl); try simp only [Act.put, zL])
  (refine TD.val0 (v := ?v99) (by simp only [zK]; rfl) rfl (by rfl) (fun w1 => ?y99) ?n99; (case y99 => go_simp; try with_reducible rfl); try simp only [Act.put, zL])
  (refine TD.load (v := ?v100) (p := ?p100) (Mod.refl _ _) (by simp only [zK]; rfl) rfl (by rfl) rfl ?hx100 (fun wq hSq => ?y100) ?n100; (case hx100 => simp only [Act.eval, zM]; try rfl); (case y100 => (have ksq := hSq.at ks (fun h => h); have kgq := hSq.at kg (fun h => h); have kaq := hSq.at ka (fun h => h); have kbq := hSq.at kb (fun h => h); go_simp; (try with_reducible rfl))); try simp only [Act.put, zL])
  (refine TD.val0 (v := ?v101) (by simp only [zK]; rfl) rfl (by rfl) (fun w1 => ?y101) ?n101; (case y101 => go_simp; try with_reducible rfl); try simp only [Act.put, zL])
  (refine TD.val0 (v := ?v102) (by simp only [zK]; rfl) rfl (by rfl) (fun w1 => ?y102) ?n102; (case y102 => go_simp; try with_reducible rfl); try simp only [Act.put, zL])
  (refine TD.val0 (v := ?v103) (by simp only [zK]; rfl) rfl (by rfl) (fun w1 => ?y103) ?n103; (case y103 => go_simp; try with_reducible rfl); try simp only [Act.put, zL])
  (refine TD.load (v := ?v104) (p := ?p104) (Mod.refl _ _) (by simp only [zK]; rfl) rfl (by rfl) rfl ?hx104 (fun wq hSq => ?y104) ?n104; (case hx104 => simp only [Act.eval, zM]; try rfl); (case y104 => (have ksq := hSq.at ks (fun h => h); have kgq := hSq.at kg (fun h => h); have kaq := hSq.at ka (fun h => h); have kbq := hSq.at kb (fun h => h); go_simp; (try with_reducible rfl))); try simp only [Act.put, zL])
  (refine TD.val0 (v := ?v105) (by simp only [zK]; rfl) rfl (by rfl) (fun w1 => ?y105) ?n105; (case y105 => go_simp; try with_reducible rfl); try simp only [Act.put, zL])
  (refine TD.val0 (v := ?v106) (by simp only [zK]; rfl) rfl (by rfl) (fun w1 => ?y106) ?n106; (case y106 => go_simp; try with_reducible rfl); try simp only [Act.put, zL])
  (refine TD.val0 (v := ?v107) (by simp only [zK]; rfl) rfl (by rfl) (fun w1 => ?y107) ?n107; (case y107 => go_simp; try with_reducible rfl); try simp only [Act.put, zL])
  (refine TD.val0 (v := ?v108) (by simp only [zK]; rfl) rfl (by rfl) (fun w1 => ?y108) ?n108; (case y108 => go_simp; try with_reducible rfl); try simp only [Act.put, zL])
  (refine TD.val0 (v := ?v109) (by simp only [zK]; rfl) rfl (by rfl) (fun w1 => ?y109) ?n109; (case y109 => go_simp; try with_reducible rfl); try simp only [Act.put, zL])
  (refine TD.val0 (v := ?v110) (by simp only [zK]; rfl) rfl (by rfl) (fun w1 => ?y110) ?n110; (case y110 => go_simp; try with_reducible rfl); try simp only [Act.put, zL])
  (refine TD.val0 (v := ?v111) (by simp only [zK]; rfl) rfl (by rfl) (fun w1 => ?y111) ?n111; (case y111 => go_simp; try with_reducible rfl); try simp only [Act.put, zL])
  refine TD.eff (by simp only [zK]; rfl) rfl (fun w5 hr => ?_)
  have ks := hr.mod.at ks (fun h => h)
  have kg := hr.mod.at kg (fun h => h)
  have ka := hr.mod.at ka (fun h => h)
  have kb := hr.mod.at kb (fun h => h)
  have m5 := m4.then0 hr.mod
  (refine eff_store (X := ?X113) (Y := ?Y113) (w' := ?w113) (by simp only [zK]; rfl) (by rfl) rfl ?hx113 ?hz113 ?y113 ?n113; (case hx113 => simp only [Act.eval, zM]; try rfl); (case hz113 => simp only [Act.eval, zM]; try rfl); (case y113 => go_simp; try with_reducible rfl))
  (first | refine TE.mid_set kb (fun wn kb mS => ?_) | refine TE.mid_setCell kb (fun wn kb mS => ?_))
  (try simp only [Array.setIfInBounds, zL] at kb)
  have m6 : Mod (fun i => i = g ∨ i = b) w wn := (m5.mono (fun i _ e => .inl e)).then mS (fun i _ e => .inr e)
  replace ka := mS.at_ne ka hab
  replace kg := mS.at_ne kg (Ne.symm hbg)
  (refine TE.val0 (v := ?v114) (by simp only [zK]; rfl) (by rfl) (fun w1 => ?y114) ?n114; (case y114 => go_simp; try with_reducible rfl); try simp only [Act.put, zL])
  refine TE.step (by simp only [zK]; rfl) rfl ?_
  (refine eff_store (X := ?X115) (Y := ?Y115) (w' := ?w115) (by simp only [zK]; rfl) (by rfl) rfl ?hx115 ?hz115 ?y115 ?n115; (case hx115 => simp only [Act.eval, zM]; try rfl); (case hz115 => simp only [Act.eval, zM]; try rfl); (case y115 => go_simp; try with_reducible rfl))
  (first | refine TE.nil_set ka (fun wn ka mS => ?_) | refine TE.nil_setCell ka (fun wn ka mS => ?_))
  (try simp only [Array.setIfInBounds, zL] at ka)
  have m7 : Mod (fun i => i = g ∨ i = b ∨ i = a) w wn := (m6.mono (fun i _ e => e.elim .inl (fun h => .inr (.inl h)))).then mS (fun i _ e => .inr (.inr e))
  replace kb := mS.at_ne kb (Ne.symm hab)
  replace kg := mS.at_ne kg (Ne.symm hag)
  replace ks := m7.at H.out.side (fun e => by rcases e with e | e | e; exact hsg e; exact hbs e.symm; exact has e.symm)
  clear hr
  go_wp2_with fail
  go_end0
  refine ⟨rfl, ⟨ks, HBACK.out _ _ _ kg hcs2 (swapL_length _ _) HC2.out, fun c x hx => ?_⟩, m7.mono (fun t _ e => ?_)⟩
  ·rw [swapL_get hi hj] at hx
   by_cases h1 : c = j
   ·subst h1
    rw [if_pos rfl, HA.out] at hx
    cases hx
    exact ka
   ·rw [if_neg h1] at hx
    by_cases h2 : c = i
    ·subst h2
     rw [if_pos rfl, HB.out] at hx
     cases hx
     exact kb
    ·rw [if_neg h2] at hx
     have h3 := H.out.nodes c x hx
     refine m7.at h3 (fun e => ?_)
     rcases e with e | e | e
     ·exact (ne_of_obj h3 KG0.out (obj_ty (by decide))) e
     ·exact h1 ((List.getElem?_inj hj H.out.nodup).1 (by rw [hx, HB.out, e])).symm
     ·exact h2 ((List.getElem?_inj hi H.out.nodup).1 (by rw [hx, HA.out, e])).symm
  ·rcases e with rfl | rfl | rfl
   ·exact .inl rfl
   ·exact .inr (List.mem_of_getElem? HB.out)
   ·exact .inr (List.mem_of_getElem? HA.out)
end
end Go.Proofs.YtdeghpmlhcaedaaGreatDoor
namespace Go.Proofs.YtdeghpmlhcaedaaGreatDoor
open Go.RowKit Go.Sort
open Go.ChangeMaps (setBlock)
attribute [local go_sem ↓] wlRk ldRk stRk eqRk eqRk2
attribute [local go_sem] rkc_size ndc_size cell_blk frozen_blk one_int one_bool one_ptr one_slice one_map Value.cells enter_fn
section
variable {w w' : World} {s : Nat} {k : Bool} {v : Value} {L : List Nat} {nd : Nat → Nd} {o : Nat → Int}
theorem own_take {base g cap : Nat} (h : SlOwn pc 1 104 w base (.slice (some ⟨g, 0, none⟩) L.length cap) L) {m : Nat} (hm : m ≤ L.length) : SlOwn pc 1 104 w base (.slice (some ⟨g, 0, none⟩) m cap) (L.take m) := by
 have hl : (L.take m).length = m := by rw [List.length_take]; omega
 rcases h.2 with ⟨h, _⟩ | ⟨g', cap', cur, hv, hb, hg, hnc, hcm, hcs, htake⟩
 ·cases h
 ·simp only [Value.slice.injEq, Option.some.injEq, Addr.mk.injEq, and_true, true_and] at hv
  obtain ⟨rfl, rfl⟩ := hv
  refine ⟨?_, .inr ⟨g, cap, cur, by rw [hl], hb, hg, by omega, hcm, hcs, ?_⟩⟩
  ·rw [cellsOf_pc]
   simp
  ·rw [cellsOf_pc, hl, List.map_take, ← cellsOf_pc, ← htake, List.take_take]
   congr 1
   omega
set_option maxRecDepth 20000 in
theorem bsPc (n : Nat) (w : World) : (Instr.buildSlice 101 1 #[(0, ptrV n)]).run Tryz.prog w = .ok (.slice (some ⟨w.heap.size, 0, none⟩) 1 1) (w.alloc (.cells (pc n) 104)) := by
 obtain ⟨i0, z, hi, hz, hz1, hz2, hz3⟩ := ptrT.info
 refine run_buildSlice w _ _ 1 _ _ i0 _ Tryz.underlying101 hi hz (by rw [hz1]; omega) (by rw [hz1]; omega) ?_
 rw [hz1]
 show Instr.fill _ _ [(0, _)] = _
 rw [fill_cons (off := 0) (n := 1) rfl rfl (by simp)]
 show some (wr _ 0 (pc n).toList) = _
 rw [wr_whole (pc n) _ (by simp [pc, hz3])]
theorem ta (n : Nat) (w : World) : (Instr.typeAssert (.iface 104 (ptrV n)) 20 104 true).run Tryz.prog w = .ok (.tuple #[ptrV n, .bool true]) w := by kernel_rfl
set_option maxRecDepth 20000 in
set_option maxHeartbeats 3200000 in
theorem push_c (h : Sd w s k v L nd o) {n : Nat} {i0 : Int} (hn : w.heap[n]? = some (.cells (ndc k (nd n) i0 (o n)) 128 (0, 0))) (hnL : n ∉ L) (hl : L.length ≤ 900000) : Calls Tryz.prog 133 #[ptrV s, .iface 104 (ptrV n)] w fun e w' =>
  e = .returned (.tuple #[]) ∧ ∃ v', Sd w' s k v' (L ++ [n]) nd o ∧ Mod (fun x => x = s ∨ x = n ∨ v.ownBlock = some x) w w' ∧ (v'.ownBlock = v.ownBlock ∨ ∃ g, v'.ownBlock = some g ∧ w.heap.size ≤ g) := by
 have H := Lib.hid h
 have HN := Lib.hid hn
 have HNL := Lib.hid hnL
 obtain ⟨a, c, rfl, _, hown, _⟩ := h.own.at ptrT
 have HO := Lib.hid hown
 have ks := h.side
 have kn0 := hn
 have hns : n ≠ s := ne_of_obj hn ks (obj_ty (by decide))
 have hbs := bsPc n
 have hta := ta n
 clear h hn hnL hown
 go_enter Tryz.func133, Tryz.ntmps133
 cases k
 ·
  replace kn0 := show _ = some (Obj.cells (ndc false (nd n) i0 (o n)) _ _) from kn0
  simp only [ndc, if_true, if_false, Bool.false_eq_true] at kn0
  simp only [sdc, kn, if_true, if_false, Bool.false_eq_true] at ks
  go_upto_region 1 with fail
  have Lks := lt_size ks
  have Lkn0 := lt_size kn0
  refine wp_pass (C := fun _ _ _ => False) (κ := fun i => [0, 0, 0, 0, 1, 0, 0, 0, 1, 0, 0, 0, 0, 5].getD i 0) [0, 1, 2, 3, 4, 5, 6, 7, 8, 9, 10, 11, 12, 13] (by kernel_rfl) (by kernel_rfl) (fun _ _ d _ _ h => by cases d <;> first | exact h | exact absurd h (hP _ _ _)) ?_
  (refine TD.val0 (v := ?v1) (by simp only [zK]; rfl) rfl (by rfl) (fun w1 => ?y1) ?n1; (case y1 => go_simp; try with_reducible rfl); try simp only [Act.put, zL])
  (refine TD.val0 (v := ?v2) (by simp only [zK]; rfl) rfl (by rfl) (fun w1 => ?y2) ?n2; (case y2 => go_simp; try with_reducible rfl); try simp only [Act.put, zL])
  (refine TD.val0 (v := ?v3) (by simp only [zK]; rfl) rfl (by rfl) (fun w1 => ?y3) ?n3; (case y3 => go_simp; try with_reducible rfl); try simp only [Act.put, zL])
  (refine TD.val0 (v := ?v4) (by simp only [zK]; rfl) rfl (by rfl) (fun w1 => ?y4) ?n4; (case y4 => go_simp; try with_reducible rfl); try simp only [Act.put, zL])
  (refine TD.load (v := ?v5) (p := ?p5) (Mod.refl _ _) (by simp only [zK]; rfl) rfl (by rfl) rfl ?hx5 (fun wq hSq => ?y5) ?n5; (case hx5 => simp only [Act.eval, zM]; try rfl); (case y5 => (have ksq := hSq.at ks (fun h => h); have kn0q := hSq.at kn0 (fun h => h); go_simp; (try with_reducible rfl))); try simp only [Act.put, zL])
  (refine TD.val0 (v := ?v6) (by simp only [zK]; rfl) rfl (by rfl) (fun w1 => ?y6) ?n6; (case y6 => go_simp; try with_reducible rfl); try simp only [Act.put, zL])
  (refine TD.val0 (v := ?v7) (by simp only [zK]; rfl) rfl (by rfl) (fun w1 => ?y7) ?n7; (case y7 => go_simp; try with_reducible rfl); try simp only [Act.put, zL])
  (refine TD.val0 (v := ?v8) (by simp only [zK]; rfl) rfl (by rfl) (fun w1 => ?y8) ?n8; (case y8 => go_simp; try with_reducible rfl); try simp only [Act.put, zL])
  (refine TD.load (v := ?v9) (p := ?p9) (Mod.refl _ _) (by simp only [zK]; rfl) rfl (by rfl) rfl ?hx9 (fun wq hSq => ?y9) ?n9; (case hx9 => simp only [Act.eval, zM]; try rfl); (case y9 => (have ksq := hSq.at ks (fun h => h); have kn0q := hSq.at kn0 (fun h => h); go_simp; (try with_reducible rfl))); try simp only [Act.put, zL])
  (refine TD.val0 (v := ?v10) (by simp only [zK]; rfl) rfl (by rfl) (fun w1 => ?y10) ?n10; (case y10 => go_simp; try with_reducible rfl); try simp only [Act.put, zL])
  (refine TD.val0 (v := ?v11) (by simp only [zK]; rfl) rfl (by rfl) (fun w1 => ?y11) ?n11; (case y11 => go_simp; try with_reducible rfl); try simp only [Act.put, zL])
  (refine TD.val0 (v := ?v12) (by simp only [zK]; rfl) rfl (by rfl) (fun w1 => ?y12) ?n12; (case y12 => go_simp; try with_reducible rfl); try simp only [Act.put, zL])
  (refine TD.val0 (v := ?v13) (by simp only [zK]; rfl) rfl (by rfl) (fun w1 => ?y13) ?n13; (case y13 => go_simp; try with_reducible rfl); try simp only [Act.put, zL])
  refine TD.eff (by simp only [zK]; rfl) rfl (fun wE hr => ?_)
  have ks := hr.mod.at0 ks
  have kn0 := hr.mod.at0 kn0
  have mE := hr.mod
  (refine eff_store (X := ?X14) (Y := ?Y14) (w' := ?w14) (by simp only [zK]; rfl) (by rfl) rfl ?hx14 ?hz14 ?y14 ?n14; (case hx14 => simp only [Act.eval, zM]; try rfl); (case hz14 => simp only [Act.eval, zM]; try rfl); (case y14 => go_simp; try with_reducible rfl))
  (first | refine TE.nil_set kn0 (fun w1 kn0 mS => ?_) | refine TE.nil_setCell kn0 (fun w1 kn0 mS => ?_))
  (try simp only [Array.setIfInBounds, zL] at kn0)
  have ks := mS.at_ne ks (by omega)
  have m1 : Mod (fun x => x = n) w w1 := (mE.mono (fun _ _ h => h.elim)).then mS (fun _ _ h => h)
  replace ks := m1.at H.out.side (Ne.symm hns)
  simp only [sdc, kn, if_true, if_false, Bool.false_eq_true] at ks
  go_upto_region 2 with fail
  have Lks := lt_size ks
  have Lkn0 := lt_size kn0
  refine wp_pass0 (C := fun _ _ _ => False) (κ := fun i => [0, 0, 0, 0, 1, 0, 3, 5, 0, 0, 6].getD i 0) [0, 1, 2, 3, 4, 5, 6, 7, 8, 9, 10] (by kernel_rfl) (by kernel_rfl) (fun _ _ d _ _ h => by cases d <;> first | exact h | exact absurd h (hP _ _ _)) ?_
  (refine TD.val0 (v := ?v15) (by simp only [zK]; rfl) rfl (by rfl) (fun w1 => ?y15) ?n15; (case y15 => go_simp; try with_reducible rfl); try simp only [Act.put, zL])
  (refine TD.val0 (v := ?v16) (by simp only [zK]; rfl) rfl (by rfl) (fun w1 => ?y16) ?n16; (case y16 => go_simp; try with_reducible rfl); try simp only [Act.put, zL])
  (refine TD.val0 (v := ?v17) (by simp only [zK]; rfl) rfl (by rfl) (fun w1 => ?y17) ?n17; (case y17 => go_simp; try with_reducible rfl); try simp only [Act.put, zL])
  (refine TD.val0 (v := ?v18) (by simp only [zK]; rfl) rfl (by rfl) (fun w1 => ?y18) ?n18; (case y18 => go_simp; try with_reducible rfl); try simp only [Act.put, zL])
  (refine TD.load (v := ?v19) (p := ?p19) (Mod.refl _ _) (by simp only [zK]; rfl) rfl (by rfl) rfl ?hx19 (fun wq hSq => ?y19) ?n19; (case hx19 => simp only [Act.eval, zM]; try rfl); (case y19 => (have ksq := hSq.at ks (fun h => h); have kn0q := hSq.at kn0 (fun h => h); go_simp; (try with_reducible rfl))); try simp only [Act.put, zL])
  (refine TD.val0 (v := ?v20) (by simp only [zK]; rfl) rfl (by rfl) (fun w1 => ?y20) ?n20; (case y20 => go_simp; try with_reducible rfl); try simp only [Act.put, zL])
  (refine TD.bslice (by simp only [zK]; rfl) rfl (by rfl) rfl rfl ?hx21 hbs (fun p30 hp30 => ?n21); (case hx21 => (simp only [List.map_toArray, List.map_cons, List.map_nil, Act.eval, zM]; (try rfl))); try simp only [Act.put, zL])
  refine TD.eff (by simp only [zK]; rfl) rfl (fun w2 hr => ?_)
  have ks := hr.mod.at ks (fun h => h)
  have kn0 := hr.mod.at kn0 (fun h => h)
  have kp30 := hr.box p30 _ (by first | exact Bx.set_same _ _ _ | (simp only [Bx.set_same]; rfl)); dsimp only [Value.cells] at kp30; obtain ⟨gp30, kp30⟩ := kp30
  have hone : SlAt pc 1 w2 (some ⟨p30, 0, none⟩) [n] := SlAt.one kp30 n rfl rfl
  have m2 := m1.then0 hr.mod
  have hog : ∀ g, (Value.slice a L.length c).ownBlock = some g → g ≠ n ∧ g ≠ s := fun g hg => by
   obtain ⟨cur, kg⟩ := own_block H.out.own hg
   exact ⟨ne_of_obj kg HN.out (obj_ty (by decide)), ne_of_obj kg H.out.side (obj_ty (by decide))⟩
  have HOG := Lib.hid hog
  have hO2 := H.out.own.mod m2 (fun g hg => (hog g hg).1)
  clear hog
  obtain ⟨v3, w3, hap, hO3, m3, hn3⟩ := SlOwn.append ptrT (c := 1) hO2 hone (by simp; omega) (by decide) (Nat.zero_le _) 101
  replace ks := m3.at ks (fun e => (HOG.out s e).2 rfl)
  replace kn0 := m3.at kn0 (fun e => (HOG.out n e).1 rfl)
  have m4 : Mod (fun x => x = n ∨ (Value.slice a L.length c).ownBlock = some x) w w3 := (m2.mono (fun _ _ h => .inl h)).then m3 (fun _ _ h => .inr h)
  obtain ⟨va, vc, rfl, _⟩ := hO3.at ptrT
  have HO3 := Lib.hid hO3
  have HN3 := Lib.hid hn3
  have HS3 := Lib.hid m2.size
  clear hO2 hO3 hone hn3 m3
  (refine eff_append (by simp only [zK]; rfl) (by rfl) rfl ?hx23 ?hz23 hap ?n23; (case hx23 => simp only [Act.eval, zM]; try rfl); (case hz23 => simp only [Act.eval, zM]; try rfl); try simp only [Act.put, zL])
  (refine TE.val0 (v := ?v24) (by simp only [zK]; rfl) (by rfl) (fun w1 => ?y24) ?n24; (case y24 => go_simp; try with_reducible rfl); try simp only [Act.put, zL])
  (refine TE.val0 (v := ?v25) (by simp only [zK]; rfl) (by rfl) (fun w1 => ?y25) ?n25; (case y25 => go_simp; try with_reducible rfl); try simp only [Act.put, zL])
  refine TE.step (by simp only [zK]; rfl) rfl ?_
  (refine eff_store (X := ?X26) (Y := ?Y26) (w' := ?w26) (by simp only [zK]; rfl) (by rfl) rfl ?hx26 ?hz26 ?y26 ?n26; (case hx26 => simp only [Act.eval, zM]; try rfl); (case hz26 => simp only [Act.eval, zM]; try rfl); (case y26 => go_simp; try with_reducible rfl))
  (first | refine TE.nil_set ks (fun wn ks mS => ?_) | refine TE.nil_setCell ks (fun wn ks mS => ?_))
  (try simp only [Array.setIfInBounds, zL] at ks)
  replace ks : wn.heap[s]? = some (.cells (sdc false (.slice va (L ++ [n]).length vc)) 103 (0, 0)) := by
   rw [List.length_append]
   exact ks
  have m5 : Mod (fun x => x = s ∨ x = n ∨ (Value.slice a L.length c).ownBlock = some x) w wn := (m4.mono (fun _ _ h => .inr h)).then mS (fun _ _ h => .inl h)
  replace kn0 := mS.at_ne kn0 hns
  have HMS := Lib.hid mS
  have hs1 := lt_size H.out.side
  clear mS
  go_wp2_with fail
  go_end0
  have hown : ∀ g, (Value.slice va (L ++ [n]).length vc).ownBlock = some g → g ≠ s := fun g hg e => by
   rcases HN3.out with h | h
   ·rw [h] at hg
    exact (HOG.out g hg).2 e
   ·rw [h] at hg
    cases hg
    have := HS3.out
    omega
  refine ⟨rfl, .slice va (L ++ [n]).length vc, ⟨ks, HO3.out.mod HMS.out hown, fun i b hib => ?_⟩, m5, ?_⟩
  ·by_cases hi : i < L.length
   ·rw [List.getElem?_append_left hi] at hib
    have h3 := H.out.nodes i b hib
    refine m5.at h3 (fun e => ?_)
    rcases e with e | e | e
    ·exact ne_of_obj h3 H.out.side (obj_ty (by decide)) e
    ·exact HNL.out (e ▸ List.mem_of_getElem? hib)
    ·obtain ⟨cur, kg⟩ := own_block H.out.own e
     exact ne_of_obj h3 kg (obj_ty (by decide)) rfl
   ·rw [List.getElem?_append_right (by omega)] at hib
    have h0 := (List.getElem?_eq_some_iff.1 hib).1
    simp only [List.length_singleton] at h0
    obtain rfl : i = L.length := by omega
    rw [Nat.sub_self] at hib
    cases hib
    exact kn0
  ·rcases HN3.out with h | h
   ·exact .inl h
   ·exact .inr ⟨_, h, HS3.out⟩
 ·
  replace kn0 := show _ = some (Obj.cells (ndc true (nd n) i0 (o n)) _ _) from kn0
  simp only [ndc, if_true, if_false, Bool.false_eq_true] at kn0
  simp only [sdc, kn, if_true, if_false, Bool.false_eq_true] at ks
  go_upto_region 1 with fail
  have Lks := lt_size ks
  have Lkn0 := lt_size kn0
  refine wp_pass (C := fun _ _ _ => False) (κ := fun i => [0, 0, 0, 0, 1, 0, 0, 0, 1, 0, 0, 0, 0, 5].getD i 0) [0, 1, 2, 3, 4, 5, 6, 7, 8, 9, 10, 11, 12, 13] (by kernel_rfl) (by kernel_rfl) (fun _ _ d _ _ h => by cases d <;> first | exact h | exact absurd h (hP _ _ _)) ?_
  (refine TD.val0 (v := ?v27) (by simp only [zK]; rfl) rfl (by rfl) (fun w1 => ?y27) ?n27; (case y27 => go_simp; try with_reducible rfl); try simp only [Act.put, zL])
  (refine TD.val0 (v := ?v28) (by simp only [zK]; rfl) rfl (by rfl) (fun w1 => ?y28) ?n28; (case y28 => go_simp; try with_reducible rfl); try simp only [Act.put, zL])
  (refine TD.val0 (v := ?v29) (by simp only [zK]; rfl) rfl (by rfl) (fun w1 => ?y29) ?n29; (case y29 => go_simp; try with_reducible rfl); try simp only [Act.put, zL])
  (refine TD.val0 (v := ?v30) (by simp only [zK]; rfl) rfl (by rfl) (fun w1 => ?y30) ?n30; (case y30 => go_simp; try with_reducible rfl); try simp only [Act.put, zL])
  (refine TD.load (v := ?v31) (p := ?p31) (Mod.refl _ _) (by simp only [zK]; rfl) rfl (by rfl) rfl ?hx31 (fun wq hSq => ?y31) ?n31; (case hx31 => simp only [Act.eval, zM]; try rfl); (case y31 => (have ksq := hSq.at ks (fun h => h); have kn0q := hSq.at kn0 (fun h => h); go_simp; (try with_reducible rfl))); try simp only [Act.put, zL])
  (refine TD.val0 (v := ?v32) (by simp only [zK]; rfl) rfl (by rfl) (fun w1 => ?y32) ?n32; (case y32 => go_simp; try with_reducible rfl); try simp only [Act.put, zL])
  (refine TD.val0 (v := ?v33) (by simp only [zK]; rfl) rfl (by rfl) (fun w1 => ?y33) ?n33; (case y33 => go_simp; try with_reducible rfl); try simp only [Act.put, zL])
  (refine TD.val0 (v := ?v34) (by simp only [zK]; rfl) rfl (by rfl) (fun w1 => ?y34) ?n34; (case y34 => go_simp; try with_reducible rfl); try simp only [Act.put, zL])
  (refine TD.load (v := ?v35) (p := ?p35) (Mod.refl _ _) (by simp only [zK]; rfl) rfl (by rfl) rfl ?hx35 (fun wq hSq => ?y35) ?n35; (case hx35 => simp only [Act.eval, zM]; try rfl); (case y35 => (have ksq := hSq.at ks (fun h => h); have kn0q := hSq.at kn0 (fun h => h); go_simp; (try with_reducible rfl))); try simp only [Act.put, zL])
  (refine TD.val0 (v := ?v36) (by simp only [zK]; rfl) rfl (by rfl) (fun w1 => ?y36) ?n36; (case y36 => go_simp; try with_reducible rfl); try simp only [Act.put, zL])
  (refine TD.val0 (v := ?v37) (by simp only [zK]; rfl) rfl (by rfl) (fun w1 => ?y37) ?n37; (case y37 => go_simp; try with_reducible rfl); try simp only [Act.put, zL])
  (refine TD.val0 (v := ?v38) (by simp only [zK]; rfl) rfl (by rfl) (fun w1 => ?y38) ?n38; (case y38 => go_simp; try with_reducible rfl); try simp only [Act.put, zL])
  (refine TD.val0 (v := ?v39) (by simp only [zK]; rfl) rfl (by rfl) (fun w1 => ?y39) ?n39; (case y39 => go_simp; try with_reducible rfl); try simp only [Act.put, zL])
  refine TD.eff (by simp only [zK]; rfl) rfl (fun wE hr => ?_)
  have ks := hr.mod.at0 ks
  have kn0 := hr.mod.at0 kn0
  have mE := hr.mod
  (refine eff_store (X := ?X40) (Y := ?Y40) (w' := ?w40) (by simp only [zK]; rfl) (by rfl) rfl ?hx40 ?hz40 ?y40 ?n40; (case hx40 => simp only [Act.eval, zM]; try rfl); (case hz40 => simp only [Act.eval, zM]; try rfl); (case y40 => go_simp; try with_reducible rfl))
  (first | refine TE.nil_set kn0 (fun w1 kn0 mS => ?_) | refine TE.nil_setCell kn0 (fun w1 kn0 mS => ?_))
  (try simp only [Array.setIfInBounds, zL] at kn0)
  have ks := mS.at_ne ks (by omega)
  have m1 : Mod (fun x => x = n) w w1 := (mE.mono (fun _ _ h => h.elim)).then mS (fun _ _ h => h)
  replace ks := m1.at H.out.side (Ne.symm hns)
  simp only [sdc, kn, if_true, if_false, Bool.false_eq_true] at ks
  go_upto_region 2 with fail
  have Lks := lt_size ks
  have Lkn0 := lt_size kn0
  refine wp_pass0 (C := fun _ _ _ => False) (κ := fun i => [0, 0, 0, 0, 1, 0, 3, 5, 0, 0, 6].getD i 0) [0, 1, 2, 3, 4, 5, 6, 7, 8, 9, 10] (by kernel_rfl) (by kernel_rfl) (fun _ _ d _ _ h => by cases d <;> first | exact h | exact absurd h (hP _ _ _)) ?_
  (refine TD.val0 (v := ?v41) (by simp only [zK]; rfl) rfl (by rfl) (fun w1 => ?y41) ?n41; (case y41 => go_simp; try with_reducible rfl); try simp only [Act.put, zL])
  (refine TD.val0 (v := ?v42) (by simp only [zK]; rfl) rfl (by rfl) (fun w1 => ?y42) ?n42; (case y42 => go_simp; try with_reducible rfl); try simp only [Act.put, zL])
  (refine TD.val0 (v := ?v43) (by simp only [zK]; rfl) rfl (by rfl) (fun w1 => ?y43) ?n43; (case y43 => go_simp; try with_reducible rfl); try simp only [Act.put, zL])
  (refine TD.val0 (v := ?v44) (by simp only [zK]; rfl) rfl (by rfl) (fun w1 => ?y44) ?n44; (case y44 => go_simp; try with_reducible rfl); try simp only [Act.put, zL])
  (refine TD.load (v := ?v45) (p := ?p45) (Mod.refl _ _) (by simp only [zK]; rfl) rfl (by rfl) rfl ?hx45 (fun wq hSq => ?y45) ?n45; (case hx45 => simp only [Act.eval, zM]; try rfl); (case y45 => (have ksq := hSq.at ks (fun h => h); have kn0q := hSq.at kn0 (fun h => h); go_simp; (try with_reducible rfl))); try simp only [Act.put, zL])
  (refine TD.val0 (v := ?v46) (by simp only [zK]; rfl) rfl (by rfl) (fun w1 => ?y46) ?n46; (case y46 => go_simp; try with_reducible rfl); try simp only [Act.put, zL])
  (refine TD.bslice (by simp only [zK]; rfl) rfl (by rfl) rfl rfl ?hx47 hbs (fun p30 hp30 => ?n47); (case hx47 => (simp only [List.map_toArray, List.map_cons, List.map_nil, Act.eval, zM]; (try rfl))); try simp only [Act.put, zL])
  refine TD.eff (by simp only [zK]; rfl) rfl (fun w2 hr => ?_)
  have ks := hr.mod.at ks (fun h => h)
  have kn0 := hr.mod.at kn0 (fun h => h)
  have kp30 := hr.box p30 _ (by first | exact Bx.set_same _ _ _ | (simp only [Bx.set_same]; rfl)); dsimp only [Value.cells] at kp30; obtain ⟨gp30, kp30⟩ := kp30
  have hone : SlAt pc 1 w2 (some ⟨p30, 0, none⟩) [n] := SlAt.one kp30 n rfl rfl
  have m2 := m1.then0 hr.mod
  have hog : ∀ g, (Value.slice a L.length c).ownBlock = some g → g ≠ n ∧ g ≠ s := fun g hg => by
   obtain ⟨cur, kg⟩ := own_block H.out.own hg
   exact ⟨ne_of_obj kg HN.out (obj_ty (by decide)), ne_of_obj kg H.out.side (obj_ty (by decide))⟩
  have HOG := Lib.hid hog
  have hO2 := H.out.own.mod m2 (fun g hg => (hog g hg).1)
  clear hog
  obtain ⟨v3, w3, hap, hO3, m3, hn3⟩ := SlOwn.append ptrT (c := 1) hO2 hone (by simp; omega) (by decide) (Nat.zero_le _) 101
  replace ks := m3.at ks (fun e => (HOG.out s e).2 rfl)
  replace kn0 := m3.at kn0 (fun e => (HOG.out n e).1 rfl)
  have m4 : Mod (fun x => x = n ∨ (Value.slice a L.length c).ownBlock = some x) w w3 := (m2.mono (fun _ _ h => .inl h)).then m3 (fun _ _ h => .inr h)
  obtain ⟨va, vc, rfl, _⟩ := hO3.at ptrT
  have HO3 := Lib.hid hO3
  have HN3 := Lib.hid hn3
  have HS3 := Lib.hid m2.size
  clear hO2 hO3 hone hn3 m3
  (refine eff_append (by simp only [zK]; rfl) (by rfl) rfl ?hx49 ?hz49 hap ?n49; (case hx49 => simp only [Act.eval, zM]; try rfl); (case hz49 => simp only [Act.eval, zM]; try rfl); try simp only [Act.put, zL])
  (refine TE.val0 (v := ?v50) (by simp only [zK]; rfl) (by rfl) (fun w1 => ?y50) ?n50; (case y50 => go_simp; try with_reducible rfl); try simp only [Act.put, zL])
  (refine TE.val0 (v := ?v51) (by simp only [zK]; rfl) (by rfl) (fun w1 => ?y51) ?n51; (case y51 => go_simp; try with_reducible rfl); try simp only [Act.put, zL])
  refine TE.step (by simp only [zK]; rfl) rfl ?_
  (refine eff_store (X := ?X52) (Y := ?Y52) (w' := ?w52) (by simp only [zK]; rfl) (by rfl) rfl ?hx52 ?hz52 ?y52 ?n52; (case hx52 => simp only [Act.eval, zM]; try rfl); (case hz52 => simp only [Act.eval, zM]; try rfl); (case y52 => go_simp; try with_reducible rfl))
  (first | refine TE.nil_set ks (fun wn ks mS => ?_) | refine TE.nil_setCell ks (fun wn ks mS => ?_))
  (try simp only [Array.setIfInBounds, zL] at ks)
  replace ks : wn.heap[s]? = some (.cells (sdc true (.slice va (L ++ [n]).length vc)) 103 (0, 0)) := by
   rw [List.length_append]
   exact ks
  have m5 : Mod (fun x => x = s ∨ x = n ∨ (Value.slice a L.length c).ownBlock = some x) w wn := (m4.mono (fun _ _ h => .inr h)).then mS (fun _ _ h => .inl h)
  replace kn0 := mS.at_ne kn0 hns
  have HMS := Lib.hid mS
  have hs1 := lt_size H.out.side
  clear mS
  go_wp2_with fail
  go_end0
  have hown : ∀ g, (Value.slice va (L ++ [n]).length vc).ownBlock = some g → g ≠ s := fun g hg e => by
   rcases HN3.out with h | h
   ·rw [h] at hg
    exact (HOG.out g hg).2 e
   ·rw [h] at hg
    cases hg
    have := HS3.out
    omega
  refine ⟨rfl, .slice va (L ++ [n]).length vc, ⟨ks, HO3.out.mod HMS.out hown, fun i b hib => ?_⟩, m5, ?_⟩
  ·by_cases hi : i < L.length
   ·rw [List.getElem?_append_left hi] at hib
    have h3 := H.out.nodes i b hib
    refine m5.at h3 (fun e => ?_)
    rcases e with e | e | e
    ·exact ne_of_obj h3 H.out.side (obj_ty (by decide)) e
    ·exact HNL.out (e ▸ List.mem_of_getElem? hib)
    ·obtain ⟨cur, kg⟩ := own_block H.out.own e
     exact ne_of_obj h3 kg (obj_ty (by decide)) rfl
   ·rw [List.getElem?_append_right (by omega)] at hib
    have h0 := (List.getElem?_eq_some_iff.1 hib).1
    simp only [List.length_singleton] at h0
    obtain rfl : i = L.length := by omega
    rw [Nat.sub_self] at hib
    cases hib
    exact kn0
  ·rcases HN3.out with h | h
   ·exact .inl h
   ·exact .inr ⟨_, h, HS3.out⟩
set_option maxRecDepth 20000 in
set_option maxHeartbeats 3200000 in
theorem pop_c {n : Nat} (h : Sd w s k v (L ++ [n]) nd o) (hl : L.length ≤ 900000) : Calls Tryz.prog 132 #[ptrV s] w fun e w' =>
  e = .returned (.iface 104 (ptrV n)) ∧ ∃ v', Sd w' s k v' L nd o ∧ Mod (fun x => x = s) w w' ∧ v'.ownBlock = v.ownBlock := by
 have H := Lib.hid h
 obtain ⟨g, cap, cur, rfl, _, kg, hcap, hcs, hcur, _⟩ := own_row h.own (by simp)
 have ks := h.side
 have hsg : s ≠ g := ne_of_obj ks kg (obj_ty (by decide))
 have cn := hcur L.length n (by simp)
 have hlen : (L ++ [n]).length = L.length + 1 := by simp
 have ht := own_take h.own (m := L.length) (by omega)
 rw [List.take_left] at ht
 have HT := Lib.hid ht
 have hsl : ∀ w, (Instr.sliceAt 101 (.slice (some ⟨g, 0, none⟩) (L.length + 1) cap) none (some (.int .i64 (L.length : Int))) none).run Tryz.prog w = .ok (.slice (some ⟨g, 0, none⟩) L.length cap) w := sl_take ptrT (by omega)
 have hw1 : IntKind.i64.wrap (((L.length + 1 : Nat) : Int) - 1) = (L.length : Int) := by
  rw [IntKind.wrap_i64]
  omega
 have hw2 : IntKind.i64.wrap (L.length : Int) = (L.length : Int) := by
  rw [IntKind.wrap_i64]
  omega
 have hlt1 : (L.length : Int) < (L.length : Int) + 1 := by omega
 rw [hlen] at ks
 clear h hcur ht hcap hcs
 go_enter Tryz.func132, Tryz.ntmps132
 go_upto_region 1 with fail
 have Lks := lt_size ks
 have Lkg := lt_size kg
 refine wp_pass0 (C := fun _ _ _ => False) (κ := fun i => [0, 0, 0, 1, 0, 0, 0].getD i 0) [0, 1, 2, 3, 4, 5, 6] (by kernel_rfl) (by kernel_rfl) (fun _ _ d _ _ h => by cases d <;> first | exact h | exact absurd h (hP _ _ _)) ?_
 (refine TD.val0 (v := ?v53) (by simp only [zK]; rfl) rfl (by rfl) (fun w1 => ?y53) ?n53; (case y53 => go_simp; try with_reducible rfl); try simp only [Act.put, zL])
 (refine TD.val0 (v := ?v54) (by simp only [zK]; rfl) rfl (by rfl) (fun w1 => ?y54) ?n54; (case y54 => go_simp; try with_reducible rfl); try simp only [Act.put, zL])
 (refine TD.val0 (v := ?v55) (by simp only [zK]; rfl) rfl (by rfl) (fun w1 => ?y55) ?n55; (case y55 => go_simp; try with_reducible rfl); try simp only [Act.put, zL])
 (refine TD.load (v := ?v56) (p := ?p56) (Mod.refl _ _) (by simp only [zK]; rfl) rfl (by rfl) rfl ?hx56 (fun wq hSq => ?y56) ?n56; (case hx56 => simp only [Act.eval, zM]; try rfl); (case y56 => (have ksq := hSq.at ks (fun h => h); have kgq := hSq.at kg (fun h => h); go_simp; (try with_reducible rfl))); try simp only [Act.put, zL])
 (refine TD.val0 (v := ?v57) (by simp only [zK]; rfl) rfl (by rfl) (fun w1 => ?y57) ?n57; (case y57 => go_simp; try with_reducible rfl); try simp only [Act.put, zL])
 (refine TD.val0 (v := ?v58) (by simp only [zK]; rfl) rfl (by rfl) (fun w1 => ?y58) ?n58; (case y58 => go_simp; try with_reducible rfl); try simp only [Act.put, zL])
 (refine TD.val0 (v := ?v59) (by simp only [zK]; rfl) rfl (by rfl) (fun w1 => ?y59) ?n59; (case y59 => go_simp; try with_reducible rfl); try simp only [Act.put, zL])
 refine TD.nil (fun w1 hr => ?_)
 have ks := hr.mod.at ks (fun h => h)
 have kg := hr.mod.at kg (fun h => h)
 have m1 := hr.mod
 clear hr
 go_upto_region 2 with fail
 have Lks := lt_size ks
 have Lkg := lt_size kg
 refine wp_pass0 (C := fun _ _ _ => False) (κ := fun i => [0, 0, 0, 1, 0, 0, 1, 0].getD i 0) [0, 1, 2, 3, 4, 5, 6, 7] (by kernel_rfl) (by kernel_rfl) (fun _ _ d _ _ h => by cases d <;> first | exact h | exact absurd h (hP _ _ _)) ?_
 (refine TD.val0 (v := ?v60) (by simp only [zK]; rfl) rfl (by rfl) (fun w1 => ?y60) ?n60; (case y60 => go_simp; try with_reducible rfl); try simp only [Act.put, zL])
 (refine TD.val0 (v := ?v61) (by simp only [zK]; rfl) rfl (by rfl) (fun w1 => ?y61) ?n61; (case y61 => go_simp; try with_reducible rfl); try simp only [Act.put, zL])
 (refine TD.val0 (v := ?v62) (by simp only [zK]; rfl) rfl (by rfl) (fun w1 => ?y62) ?n62; (case y62 => go_simp; try with_reducible rfl); try simp only [Act.put, zL])
 (refine TD.load (v := ?v63) (p := ?p63) (Mod.refl _ _) (by simp only [zK]; rfl) rfl (by rfl) rfl ?hx63 (fun wq hSq => ?y63) ?n63; (case hx63 => simp only [Act.eval, zM]; try rfl); (case y63 => (have ksq := hSq.at ks (fun h => h); have kgq := hSq.at kg (fun h => h); go_simp; (try with_reducible rfl))); try simp only [Act.put, zL])
 (refine TD.val0 (v := ?v64) (by simp only [zK]; rfl) rfl (by rfl) (fun w1 => ?y64) ?n64; (case y64 => go_simp; try with_reducible rfl); try simp only [Act.put, zL])
 (refine TD.val0 (v := ?v65) (by simp only [zK]; rfl) rfl (by rfl) (fun w1 => ?y65) ?n65; (case y65 => go_simp; try with_reducible rfl); try simp only [Act.put, zL])
 (refine TD.load (v := ?v66) (p := ?p66) (Mod.refl _ _) (by simp only [zK]; rfl) rfl (by rfl) rfl ?hx66 (fun wq hSq => ?y66) ?n66; (case hx66 => simp only [Act.eval, zM]; try rfl); (case y66 => (have ksq := hSq.at ks (fun h => h); have kgq := hSq.at kg (fun h => h); go_simp; (try with_reducible rfl))); try simp only [Act.put, zL])
 (refine TD.val0 (v := ?v67) (by simp only [zK]; rfl) rfl (by rfl) (fun w1 => ?y67) ?n67; (case y67 => go_simp; try with_reducible rfl); try simp only [Act.put, zL])
 refine TD.nil (fun w2 hr => ?_)
 have ks := hr.mod.at ks (fun h => h)
 have kg := hr.mod.at kg (fun h => h)
 have m2 := m1.then0 hr.mod
 clear hr
 go_upto_region 3 with fail
 have Lks := lt_size ks
 have Lkg := lt_size kg
 refine wp_pass0 (C := fun _ _ _ => False) (κ := fun i => [0, 0, 0, 0, 1, 0, 0, 0, 0, 5].getD i 0) [0, 1, 2, 3, 4, 5, 6, 7, 8, 9] (by kernel_rfl) (by kernel_rfl) (fun _ _ d _ _ h => by cases d <;> first | exact h | exact absurd h (hP _ _ _)) ?_
 (refine TD.val0 (v := ?v68) (by simp only [zK]; rfl) rfl (by rfl) (fun w1 => ?y68) ?n68; (case y68 => go_simp; try with_reducible rfl); try simp only [Act.put, zL])
 (refine TD.val0 (v := ?v69) (by simp only [zK]; rfl) rfl (by rfl) (fun w1 => ?y69) ?n69; (case y69 => go_simp; try with_reducible rfl); try simp only [Act.put, zL])
 (refine TD.val0 (v := ?v70) (by simp only [zK]; rfl) rfl (by rfl) (fun w1 => ?y70) ?n70; (case y70 => go_simp; try with_reducible rfl); try simp only [Act.put, zL])
 (refine TD.val0 (v := ?v71) (by simp only [zK]; rfl) rfl (by rfl) (fun w1 => ?y71) ?n71; (case y71 => go_simp; try with_reducible rfl); try simp only [Act.put, zL])
 (refine TD.load (v := ?v72) (p := ?p72) (Mod.refl _ _) (by simp only [zK]; rfl) rfl (by rfl) rfl ?hx72 (fun wq hSq => ?y72) ?n72; (case hx72 => simp only [Act.eval, zM]; try rfl); (case y72 => (have ksq := hSq.at ks (fun h => h); have kgq := hSq.at kg (fun h => h); go_simp; (try with_reducible rfl))); try simp only [Act.put, zL])
 (refine TD.val0 (v := ?v73) (by simp only [zK]; rfl) rfl (by rfl) (fun w1 => ?y73) ?n73; (case y73 => go_simp; try with_reducible rfl); try simp only [Act.put, zL])
 (refine TD.slice (by simp only [zK]; rfl) rfl (by rfl) rfl ?hs74 ?hl74 ?hh74 ?hm74 hsl ?n74; (case hs74 => simp only [Act.eval, zM]; try rfl); (case hl74 => first | rfl | (simp only [Option.map_some, Act.eval, zM]; (try rfl))); (case hh74 => first | rfl | (simp only [Option.map_some, Act.eval, zM]; (try rfl))); (case hm74 => rfl); try simp only [Act.put, zL])
 (refine TD.val0 (v := ?v75) (by simp only [zK]; rfl) rfl (by rfl) (fun w1 => ?y75) ?n75; (case y75 => go_simp; try with_reducible rfl); try simp only [Act.put, zL])
 (refine TD.val0 (v := ?v76) (by simp only [zK]; rfl) rfl (by rfl) (fun w1 => ?y76) ?n76; (case y76 => go_simp; try with_reducible rfl); try simp only [Act.put, zL])
 refine TD.eff (by simp only [zK]; rfl) rfl (fun wE hr => ?_)
 have ks := hr.mod.at0 ks
 have kg := hr.mod.at0 kg
 have mE := hr.mod
 (refine eff_store (X := ?X77) (Y := ?Y77) (w' := ?w77) (by simp only [zK]; rfl) (by rfl) rfl ?hx77 ?hz77 ?y77 ?n77; (case hx77 => simp only [Act.eval, zM]; try rfl); (case hz77 => simp only [Act.eval, zM]; try rfl); (case y77 => go_simp; try with_reducible rfl))
 (first | refine TE.nil_set ks (fun w3 ks mS => ?_) | refine TE.nil_setCell ks (fun w3 ks mS => ?_))
 (try simp only [Array.setIfInBounds, zL] at ks)
 have kg := mS.at_ne kg (by omega)
 have m3 : Mod (fun x => x = s) w w3 := (m2.then0 mE |>.mono (fun _ _ h => h.elim)).then mS (fun _ _ h => h)
 clear mE mS
 go_wp2_with fail
 go_ret
 refine ⟨rfl, .slice (some ⟨g, 0, none⟩) L.length cap, ⟨ks, HT.out.mod m3 (fun g' hg e => ?_), fun i b hib => ?_⟩, m3, rfl⟩
 ·cases hg
  exact hsg e.symm
 ·have h3 := H.out.nodes i b (by rw [List.getElem?_append_left (List.getElem?_eq_some_iff.1 hib).1]; exact hib)
  exact m3.at h3 (fun e => ne_of_obj h3 H.out.side (obj_ty (by decide)) e)
end
end Go.Proofs.YtdeghpmlhcaedaaGreatDoor
namespace Go.Proofs.YtdeghpmlhcaedaaGreatDoor
open Go.RowKit Go.Sort
open Go.ChangeMaps (setBlock)
attribute [local go_sem ↓] wlRk ldRk stRk eqRk eqRk2
attribute [local go_sem] rkc_size ndc_size cell_blk frozen_blk one_int one_bool one_ptr one_slice one_map Value.cells enter_fn
def lessOf (k : Bool) (nd : Nat → Nd) (a b : Nat) : Bool := flt k (nd a) (nd b)
theorem weak_less (k : Bool) (nd : Nat → Nd) : Weak (lessOf k nd) := ⟨fun _ _ h => flt_asymm h, fun _ _ _ h1 h2 => flt_negtrans h1 h2⟩
abbrev hpV (s : Nat) : Value := .iface 96 (ptrV s)
theorem m_less (v : Value) (w : World) : (method 301 96 v "Less").run Tryz.prog w = .ok (131, v) w := by kernel_rfl
theorem e_less (args : Array Value) (w : World) : (callFunc 131 args).run Tryz.prog w = .ok (.enter 131 args) w := enters_of Tryz.func131 (by kernel_rfl) rfl args w
theorem m_swap (v : Value) (w : World) : (method 301 96 v "Swap").run Tryz.prog w = .ok (134, v) w := by kernel_rfl
theorem e_swap (args : Array Value) (w : World) : (callFunc 134 args).run Tryz.prog w = .ok (.enter 134 args) w := enters_of Tryz.func134 (by kernel_rfl) rfl args w
theorem m_len (v : Value) (w : World) : (method 301 96 v "Len").run Tryz.prog w = .ok (130, v) w := by kernel_rfl
theorem e_len (args : Array Value) (w : World) : (callFunc 130 args).run Tryz.prog w = .ok (.enter 130 args) w := enters_of Tryz.func130 (by kernel_rfl) rfl args w
theorem m_push (v : Value) (w : World) : (method 301 96 v "Push").run Tryz.prog w = .ok (133, v) w := by kernel_rfl
theorem e_push (args : Array Value) (w : World) : (callFunc 133 args).run Tryz.prog w = .ok (.enter 133 args) w := enters_of Tryz.func133 (by kernel_rfl) rfl args w
theorem m_pop (v : Value) (w : World) : (method 301 96 v "Pop").run Tryz.prog w = .ok (132, v) w := by kernel_rfl
theorem e_pop (args : Array Value) (w : World) : (callFunc 132 args).run Tryz.prog w = .ok (.enter 132 args) w := enters_of Tryz.func132 (by kernel_rfl) rfl args w
section
variable {w w' : World} {s : Nat} {k : Bool} {v : Value} {L : List Nat} {nd : Nat → Nd} {o : Nat → Int}
set_option maxRecDepth 20000 in
set_option maxHeartbeats 3200000 in
theorem up_c (h : Sd w s k v L nd o) {n j : Nat} (hn : n ≤ L.length) (hj : j < n) (hl : L.length ≤ 900000) (hu : UpOk (lessOf k nd) n L j) : Calls Tryz.prog 89 #[hpV s, .int .i64 (j : Int)] w fun e w' =>
  e = .returned (.tuple #[]) ∧ ∃ L', Sd w' s k v L' nd o ∧ HeapOk (lessOf k nd) n L' ∧ L'.Perm L ∧ (∀ c, n ≤ c → L'[c]? = L[c]?) ∧ Mod (fun x => v.ownBlock = some x ∨ x ∈ L) w w' := by
 have H := Lib.hid h
 have HU := Lib.hid hu
 clear h hu
 go_enter Tryz.func89, Tryz.ntmps89
 go_wp2_with fail
 go_loopw [1, 4] (fun s1 s4 ws => ∃ (j : Nat) (L' : List Nat), j < n ∧ s1 = .int .i64 (j : Int) ∧ Hid (Sd ws s k v L' nd o ∧ UpOk (lessOf k nd) n L' j ∧ L'.Perm L ∧ (∀ c, n ≤ c → L'[c]? = L[c]?) ∧ Mod (fun x => v.ownBlock = some x ∨ x ∈ L) w ws)) (fun s1 _ _ => (intOf s1).toNat)
 case atStart => exact ⟨j, L, hj, rfl, Lib.hid ⟨H.out, HU.out, .refl _, fun _ _ => rfl, Mod.refl _ _⟩⟩
 case round =>
  obtain ⟨j, L', hj, rfl, HR⟩ := hrel
  rcases Nat.eq_zero_or_pos j with rfl | hj0
  ·go_wp2_with fail
   go_end0
   obtain ⟨h1, h2, h3, h4, h5⟩ := HR.out
   exact ⟨rfl, L', h1, h2.stop (.inl rfl), h3, h4, h5⟩
  ·have ht : ((j : Int) - 1).tdiv 2 = (((j - 1) / 2 : Nat) : Int) := by
    rw [Int.tdiv_eq_ediv_of_nonneg (by omega)]
    omega
   have hib : ((((j - 1) / 2 : Nat) : Int) == (j : Int)) = false := by
    rw [beq_eq_false_iff_ne]
    omega
   have hi : (j - 1) / 2 < j := by omega
   have HI : Hid ((j - 1) / 2 = (j - 1) / 2) := Lib.hid rfl
   generalize hie : (j - 1) / 2 = i at *
   go_wp2_with fail
   rw [m_less]
   simp only [Result.andThen, e_less, Oper.upon]
   have hlen : n ≤ L'.length := by rw [HR.out.2.2.1.length_eq]; exact hn
   obtain ⟨a, ha⟩ : ∃ a, L'[j]? = some a := ⟨_, List.getElem?_eq_getElem (by omega)⟩
   obtain ⟨b, hb⟩ : ∃ b, L'[i]? = some b := ⟨_, List.getElem?_eq_getElem (by omega)⟩
   refine (less_c HR.out.1 ha hb).mono ?_
   rintro e w1 ⟨rfl, m1⟩
   have HA := Lib.hid ha
   have HB := Lib.hid hb
   clear ha hb
   cases hlt : flt k (nd a) (nd b)
   ·have HLT := Lib.hid hlt
    clear hlt
    go_wp2_with fail
    go_end0
    obtain ⟨h1, h2, h3, h4, h5⟩ := HR.out
    refine ⟨rfl, L', h1.mod0 m1, h2.stop (.inr (fun x y hx hy => ?_)), h3, h4, h5.then0 m1⟩
    rw [HA.out] at hx
    rw [hie, HB.out] at hy
    cases hx
    cases hy
    exact HLT.out
   ·have HLT := Lib.hid hlt
    clear hlt
    go_wp2_with fail
    rw [m_swap]
    simp only [Result.andThen, e_swap, Oper.upon]
    refine (swap_c (HR.out.1.mod0 m1) (i := i) (j := j) (by omega) (by omega) (by omega)).mono ?_
    rintro e w2 ⟨rfl, hS2, m2⟩
    have HS2 := Lib.hid hS2
    clear hS2
    obtain ⟨h1, h2, h3, h4, h5⟩ := HR.out
    have HX : Hid (Sd w2 s k v (swapL L' i j) nd o ∧ UpOk (lessOf k nd) n (swapL L' i j) i ∧ (swapL L' i j).Perm L ∧ (∀ c, n ≤ c → (swapL L' i j)[c]? = L[c]?) ∧ Mod (fun x => v.ownBlock = some x ∨ x ∈ L) w w2) := Lib.hid (by
     refine ⟨HS2.out, ?_, (swapL_perm (by omega) (by omega)).trans h3, fun c hc => ?_, (h5.then0 m1).then m2 (fun x _ e => e.elim .inl (fun e => .inr (h3.mem_iff.1 e)))⟩
     ·have := h2.step (weak_less k nd) hlen hj0 hj HA.out (by rw [hie]; exact HB.out) HLT.out
      rwa [hie] at this
     ·rw [swapL_get (by omega) (by omega), if_neg (by omega), if_neg (by omega), h4 c hc])
    clear h1 h2 h3 h4 h5
    go_wp2_with fail
    go_roundw
    case rel => exact ⟨i, swapL L' i j, by omega, rfl, HX⟩
    case measure => simp [intOf]; omega
end
end Go.Proofs.YtdeghpmlhcaedaaGreatDoor
namespace Go.Proofs.YtdeghpmlhcaedaaGreatDoor
open Go.RowKit Go.Sort
open Go.ChangeMaps (setBlock)
attribute [local go_sem ↓] wlRk ldRk stRk eqRk eqRk2
attribute [local go_sem] rkc_size ndc_size cell_blk frozen_blk one_int one_bool one_ptr one_slice one_map Value.cells enter_fn
theorem flt_irrefl (k : Bool) (a : Nd) : flt k a a = false := by cases k <;> exact nlt_irrefl a
section
variable {w w' : World} {s : Nat} {k : Bool} {v : Value} {L : List Nat} {nd : Nat → Nd} {o : Nat → Int}
def DnR (w ws : World) (s : Nat) (k : Bool) (v : Value) (L L' : List Nat) (nd : Nat → Nd) (o : Nat → Int) (n i0 i : Nat) : Prop :=
 Sd ws s k v L' nd o ∧ SiftOk (lessOf k nd) n L' i ∧ (i0 < i → DownOk (lessOf k nd) n L' i) ∧ L'.Perm L ∧ (∀ c, n ≤ c → L'[c]? = L[c]?) ∧ Mod (fun x => v.ownBlock = some x ∨ x ∈ L) w ws
def DnE (w ws : World) (s : Nat) (k : Bool) (v : Value) (L L' : List Nat) (nd : Nat → Nd) (o : Nat → Int) (n i0 : Nat) (moved : Bool) : Prop :=
 Sd ws s k v L' nd o ∧ (moved = true → HeapOk (lessOf k nd) n L') ∧ (moved = false → UpOk (lessOf k nd) n L' i0) ∧ L'.Perm L ∧ (∀ c, n ≤ c → L'[c]? = L[c]?) ∧ Mod (fun x => v.ownBlock = some x ∨ x ∈ L) w ws
theorem DnR.stop {w ws : World} {L L' : List Nat} {n i0 i : Nat} (h : DnR w ws s k v L L' nd o n i0 i) (hi : i0 ≤ i) (hs : Still (lessOf k nd) n L' i) : DnE w ws s k v L L' nd o n i0 (decide (i0 < i)) := by
 obtain ⟨h1, h2, h3, h4, h5, h6⟩ := h
 refine ⟨h1, fun e => ?_, fun e => ?_, h4, h5, h6⟩
 ·exact (h3 (of_decide_eq_true e)).stop hs
 ·have := of_decide_eq_false e
  obtain rfl : i0 = i := by omega
  exact h2.stop hs
theorem DnR.mod0 {w ws wt : World} {L L' : List Nat} {n i0 i : Nat} (h : DnR w ws s k v L L' nd o n i0 i) (hm : Mod (fun _ => False) ws wt) : DnR w wt s k v L L' nd o n i0 i := by
 obtain ⟨h1, h2, h3, h4, h5, h6⟩ := h
 exact ⟨h1.mod0 hm, h2, h3, h4, h5, h6.then0 hm⟩
theorem DnR.step {w ws wt : World} {L L' : List Nat} {n i0 i j a b : Nat} (h : DnR w ws s k v L L' nd o n i0 i) (hn : n ≤ L'.length) (hi : i0 ≤ i) (hf : First (lessOf k nd) n L' i j) (ha : L'[j]? = some a) (hb : L'[i]? = some b) (hlt : flt k (nd a) (nd b) = true)
  (hS : Sd wt s k v (swapL L' i j) nd o) (hm : Mod (fun x => v.ownBlock = some x ∨ x ∈ L') ws wt) : DnR w wt s k v L (swapL L' i j) nd o n i0 j := by
 obtain ⟨h1, h2, h3, h4, h5, h6⟩ := h
 have hj := hf.2.1
 have hij : i < j := by have := hf.1; omega
 have hd := h2.step (weak_less k nd) hn hf ha hb hlt
 refine ⟨hS, hd.sift, fun _ => hd, (swapL_perm (by omega) (by omega)).trans h4, fun c hc => ?_, h6.then hm (fun x _ e => e.elim .inl (fun e => .inr (h4.mem_iff.1 e)))⟩
 rw [swapL_get (by omega) (by omega), if_neg (by omega), if_neg (by omega), h5 c hc]
set_option maxRecDepth 20000 in
set_option maxHeartbeats 3200000 in
theorem down_c (h : Sd w s k v L nd o) {n i0 : Nat} (hn : n ≤ L.length) (hi0 : i0 < n) (hl : L.length ≤ 900000) (hu : SiftOk (lessOf k nd) n L i0) : Calls Tryz.prog 88 #[hpV s, .int .i64 (i0 : Int), .int .i64 (n : Int)] w fun e w' =>
  ∃ L' moved, e = .returned (.bool moved) ∧ DnE w w' s k v L L' nd o n i0 moved := by
 have HH : Hid (DnR w w s k v L L nd o n i0 i0) := Lib.hid ⟨h, hu, fun e => by omega, .refl _, fun _ _ => rfl, Mod.refl _ _⟩
 clear h hu
 go_enter Tryz.func88, Tryz.ntmps88
 go_wp2_with fail
 go_loopw [7, 8, 9, 10] (fun s7 s8 s9 s10 ws => ∃ (i : Nat) (L' : List Nat), i < n ∧ i0 ≤ i ∧ s7 = .int .i64 (i : Int) ∧ Hid (DnR w ws s k v L L' nd o n i0 i)) (fun s7 _ _ _ _ => n - (intOf s7).toNat)
 case atStart => exact ⟨i0, L, hi0, Nat.le_refl _, rfl, HH⟩
 case round =>
  clear hi0
  obtain ⟨i, L', hi, hi0, rfl, HR⟩ := hrel
  have hlen : n ≤ L'.length := by rw [HR.out.2.2.2.1.length_eq]; exact hn
  have e1 : 2 * (i : Int) + 1 = ((2 * i + 1 : Nat) : Int) := by omega
  have e2 : ((2 * i + 1 : Nat) : Int) + 1 = ((2 * i + 2 : Nat) : Int) := by omega
  have hij : i < 2 * i + 1 := by omega
  have hcc : 2 * i + 1 < 2 * i + 2 := by omega
  generalize hd1 : 2 * i + 1 = c1 at *
  generalize hd2 : 2 * i + 2 = c2 at *
  have HD1 := Lib.hid hd1
  have HD2 := Lib.hid hd2
  clear hd1 hd2
  by_cases hc : c1 < n
  ·
   by_cases hc2 : c2 < n
   ·obtain ⟨x1, hx1⟩ : ∃ a, L'[c1]? = some a := ⟨_, List.getElem?_eq_getElem (by omega)⟩
    obtain ⟨x2, hx2⟩ : ∃ a, L'[c2]? = some a := ⟨_, List.getElem?_eq_getElem (by omega)⟩
    have HX1 := Lib.hid hx1
    have HX2 := Lib.hid hx2
    clear hx1 hx2
    go_wp2_with fail
    rw [m_less]
    simp only [Result.andThen, e_less, Oper.upon]
    refine (less_c HR.out.1 HX2.out HX1.out).mono ?_
    rintro e w1 ⟨rfl, m1⟩
    have HR1 := Lib.hid (HR.out.mod0 m1)
    clear m1 HR
    cases hz : flt k (nd x2) (nd x1)
    ·have HF : Hid (First (lessOf k nd) n L' i c1) := Lib.hid ⟨.inl HD1.out.symm, hc, fun c x y hcn hcc hx hy => by
      rw [HX1.out] at hy
      cases hy
      rcases hcc with e | e
      ·rw [show c = c1 by rw [e, HD1.out], HX1.out] at hx
       cases hx
       exact flt_irrefl _ _
      ·rw [show c = c2 by rw [e, HD2.out], HX2.out] at hx
       cases hx
       exact hz⟩
     clear hz
     go_wp2_with fail
     obtain ⟨a, ha⟩ : ∃ a, L'[c1]? = some a := ⟨_, List.getElem?_eq_getElem (by omega)⟩
     obtain ⟨b, hb⟩ : ∃ b, L'[i]? = some b := ⟨_, List.getElem?_eq_getElem (by omega)⟩
     rw [m_less]
     simp only [Result.andThen, e_less, Oper.upon]
     refine (less_c HR1.out.1 ha hb).mono ?_
     rintro e w2 ⟨rfl, m2⟩
     have HA := Lib.hid ha
     have HB := Lib.hid hb
     have HR2 := Lib.hid (HR1.out.mod0 m2)
     clear ha hb m2
     cases hlt : flt k (nd a) (nd b)
     ·have HE := Lib.hid (HR2.out.stop hi0 (Still.of_first (weak_less k nd) HF.out HA.out HB.out hlt))
      clear hlt
      go_wp2_with fail
      go_ret
      exact ⟨L', decide (i0 < i), by simp, HE.out⟩
     ·have HLT := Lib.hid hlt
      clear hlt
      go_wp2_with fail
      rw [m_swap]
      simp only [Result.andThen, e_swap, Oper.upon]
      refine (swap_c HR2.out.1 (i := i) (j := c1) (by omega) (by omega) (by omega)).mono ?_
      rintro e w3 ⟨rfl, hS3, m3⟩
      have HX := Lib.hid (HR2.out.step hlen hi0 HF.out HA.out HB.out HLT.out hS3 m3)
      clear hS3 m3
      go_wp2_with fail
      go_roundw
      case rel => exact ⟨c1, swapL L' i c1, by omega, by omega, rfl, HX⟩
      case measure => simp [intOf]; omega
    ·have HF : Hid (First (lessOf k nd) n L' i c2) := Lib.hid ⟨.inr HD2.out.symm, hc2, fun c x y hcn hcc hx hy => by
      rw [HX2.out] at hy
      cases hy
      rcases hcc with e | e
      ·rw [show c = c1 by rw [e, HD1.out], HX1.out] at hx
       cases hx
       exact flt_asymm hz
      ·rw [show c = c2 by rw [e, HD2.out], HX2.out] at hx
       cases hx
       exact flt_irrefl _ _⟩
     clear hz
     go_wp2_with fail
     obtain ⟨a, ha⟩ : ∃ a, L'[c2]? = some a := ⟨_, List.getElem?_eq_getElem (by omega)⟩
     obtain ⟨b, hb⟩ : ∃ b, L'[i]? = some b := ⟨_, List.getElem?_eq_getElem (by omega)⟩
     rw [m_less]
     simp only [Result.andThen, e_less, Oper.upon]
     refine (less_c HR1.out.1 ha hb).mono ?_
     rintro e w2 ⟨rfl, m2⟩
     have HA := Lib.hid ha
     have HB := Lib.hid hb
     have HR2 := Lib.hid (HR1.out.mod0 m2)
     clear ha hb m2
     cases hlt : flt k (nd a) (nd b)
     ·have HE := Lib.hid (HR2.out.stop hi0 (Still.of_first (weak_less k nd) HF.out HA.out HB.out hlt))
      clear hlt
      go_wp2_with fail
      go_ret
      exact ⟨L', decide (i0 < i), by simp, HE.out⟩
     ·have HLT := Lib.hid hlt
      clear hlt
      go_wp2_with fail
      rw [m_swap]
      simp only [Result.andThen, e_swap, Oper.upon]
      refine (swap_c HR2.out.1 (i := i) (j := c2) (by omega) (by omega) (by omega)).mono ?_
      rintro e w3 ⟨rfl, hS3, m3⟩
      have HX := Lib.hid (HR2.out.step hlen hi0 HF.out HA.out HB.out HLT.out hS3 m3)
      clear hS3 m3
      go_wp2_with fail
      go_roundw
      case rel => exact ⟨c2, swapL L' i c2, by omega, by omega, rfl, HX⟩
      case measure => simp [intOf]; omega
   ·have HR1 := HR
    have HF : Hid (First (lessOf k nd) n L' i c1) := Lib.hid ⟨.inl HD1.out.symm, hc, fun c x y hcn hcc hx hy => by
      rcases hcc with e | e
      ·rw [show c = c1 by rw [e, HD1.out], hy] at hx
       cases hx
       exact flt_irrefl _ _
      ·have := HD2.out
       omega⟩
    clear HR
    go_wp2_with fail
    obtain ⟨a, ha⟩ : ∃ a, L'[c1]? = some a := ⟨_, List.getElem?_eq_getElem (by omega)⟩
    obtain ⟨b, hb⟩ : ∃ b, L'[i]? = some b := ⟨_, List.getElem?_eq_getElem (by omega)⟩
    rw [m_less]
    simp only [Result.andThen, e_less, Oper.upon]
    refine (less_c HR1.out.1 ha hb).mono ?_
    rintro e w2 ⟨rfl, m2⟩
    have HA := Lib.hid ha
    have HB := Lib.hid hb
    have HR2 := Lib.hid (HR1.out.mod0 m2)
    clear ha hb m2
    cases hlt : flt k (nd a) (nd b)
    ·have HE := Lib.hid (HR2.out.stop hi0 (Still.of_first (weak_less k nd) HF.out HA.out HB.out hlt))
     clear hlt
     go_wp2_with fail
     go_ret
     exact ⟨L', decide (i0 < i), by simp, HE.out⟩
    ·have HLT := Lib.hid hlt
     clear hlt
     go_wp2_with fail
     rw [m_swap]
     simp only [Result.andThen, e_swap, Oper.upon]
     refine (swap_c HR2.out.1 (i := i) (j := c1) (by omega) (by omega) (by omega)).mono ?_
     rintro e w3 ⟨rfl, hS3, m3⟩
     have HX := Lib.hid (HR2.out.step hlen hi0 HF.out HA.out HB.out HLT.out hS3 m3)
     clear hS3 m3
     go_wp2_with fail
     go_roundw
     case rel => exact ⟨c1, swapL L' i c1, by omega, by omega, rfl, HX⟩
     case measure => simp [intOf]; omega
  ·have HE := Lib.hid (HR.out.stop hi0 (Still.none (by have := HD1.out; omega)))
   go_wp2_with fail
   go_ret
   exact ⟨L', decide (i0 < i), by simp, HE.out⟩
end
end Go.Proofs.YtdeghpmlhcaedaaGreatDoor
namespace Go.Proofs.YtdeghpmlhcaedaaGreatDoor
open Go.RowKit Go.Sort
open Go.ChangeMaps (setBlock)
attribute [local go_sem ↓] wlRk ldRk stRk eqRk eqRk2
attribute [local go_sem] rkc_size ndc_size cell_blk frozen_blk one_int one_bool one_ptr one_slice one_map Value.cells enter_fn
section
variable {w w' : World} {s : Nat} {k : Bool} {v : Value} {L : List Nat} {nd : Nat → Nd} {o : Nat → Int}
set_option maxRecDepth 20000 in
set_option maxHeartbeats 3200000 in
theorem hpush_c (h : Sd w s k v L nd o) {n : Nat} {i0 : Int} (hn : w.heap[n]? = some (.cells (ndc k (nd n) i0 (o n)) 128 (0, 0))) (hnL : n ∉ L) (hl : L.length ≤ 800000) (hh : HeapOk (lessOf k nd) L.length L) : Calls Tryz.prog 71 #[hpV s, .iface 104 (ptrV n)] w fun e w' =>
  e = .returned (.tuple #[]) ∧ ∃ v' L', Sd w' s k v' L' nd o ∧ HeapOk (lessOf k nd) L'.length L' ∧ L'.Perm (L ++ [n]) ∧ Mod (fun x => x = s ∨ x = n ∨ v.ownBlock = some x ∨ x ∈ L) w w' ∧ (v'.ownBlock = v.ownBlock ∨ ∃ g, v'.ownBlock = some g ∧ w.heap.size ≤ g) := by
 have hc := push_c h hn hnL (by omega)
 have HU := Lib.hid (hh.up n rfl (weak_less k nd))
 have hw1 : IntKind.i64.wrap (((L.length + 1 : Nat) : Int) - 1) = (L.length : Int) := by
  rw [IntKind.wrap_i64]
  omega
 clear h hn hh
 go_enter Tryz.func71, Tryz.ntmps71
 go_wp2_with fail
 rw [m_push]
 simp only [Result.andThen, e_push, Oper.upon]
 refine hc.mono ?_
 rintro e w1 ⟨rfl, v', hS, hm, hv⟩
 have HS := Lib.hid hS
 have HM := Lib.hid hm
 have HV := Lib.hid hv
 clear hS hm hv hc
 have hlen : (L ++ [n]).length = L.length + 1 := by simp
 have HN := Lib.hid hlen
 clear hlen
 go_wp2_with fail
 rw [m_len]
 simp only [Result.andThen, e_len, Oper.upon]
 refine (len_c HS.out).mono ?_
 rintro e w2 ⟨rfl, rfl⟩
 rw [HN.out]
 go_wp2_with fail
 go_at_call 89
 have hup := up_c HS.out (n := L.length + 1) (j := L.length) (by rw [HN.out]; exact Nat.le_refl _) (by omega) (by rw [HN.out]; omega) HU.out
 refine hup.mono ?_
 rintro e w3 ⟨rfl, L', h1, h2, h3, h4, h5⟩
 have HX := Lib.hid (And.intro h1 (And.intro h2 (And.intro h3 h5)))
 clear h1 h2 h3 h4 h5 hup
 go_wp2_with fail
 go_end0
 obtain ⟨h1, h2, h3, h5⟩ := HX.out
 refine ⟨rfl, v', L', h1, by rw [h3.length_eq, HN.out]; exact h2, h3, HM.out.mono (T := fun x => x = s ∨ x = n ∨ v.ownBlock = some x ∨ x ∈ L) (fun x _ e => ?_) |>.then h5 (fun x hx e => ?_), HV.out⟩
 ·rcases e with e | e | e
  ·exact .inl e
  ·exact .inr (.inl e)
  ·exact .inr (.inr (.inl e))
 ·rcases e with e | e
  ·rcases HV.out with hv | ⟨g, hv, hg⟩
   ·rw [hv] at e
    exact .inr (.inr (.inl e))
   ·rw [hv] at e
    cases e
    omega
  ·rcases List.mem_append.1 e with e | e
   ·exact .inr (.inr (.inr e))
   ·exact .inr (.inl (List.mem_singleton.1 e))
theorem last_of {L2 : List Nat} {n x : Nat} (hl : L2.length = n + 1) (hx : L2[n]? = some x) : L2 = L2.take n ++ [x] := by
 have h1 := List.take_append_drop n L2
 have h2 : L2.drop n = [x] := by
  rw [drop_cons hx, List.drop_of_length_le (by omega)]
 rw [h2] at h1
 exact h1.symm
set_option maxRecDepth 20000 in
set_option maxHeartbeats 3200000 in
theorem hremove_c (h : Sd w s k v L nd o) {n i x : Nat} (hl : L.length = n + 1) (hx : L[i]? = some x) (hn : n ≤ 800000) (hh : HeapOk (lessOf k nd) L.length L) : Calls Tryz.prog 69 #[hpV s, .int .i64 (i : Int)] w fun e w' =>
  ∃ v' L', e = .returned (.iface 104 (ptrV x)) ∧ Sd w' s k v' L' nd o ∧ HeapOk (lessOf k nd) L'.length L' ∧ (L' ++ [x]).Perm L ∧ Mod (fun t => t = s ∨ v.ownBlock = some t ∨ t ∈ L) w w' ∧ v'.ownBlock = v.ownBlock ∧ ∃ i' : Int, w'.heap[x]? = some (.cells (ndc k (nd x) i' (o x)) 128 (0, 0)) := by
 have hi : i < n + 1 := by have := (List.getElem?_eq_some_iff.1 hx).1; omega
 have HX0 := Lib.hid hx
 have H := Lib.hid h
 have HHo := Lib.hid hh
 have HL := Lib.hid hl
 have hlen := len_c h
 have hw1 : IntKind.i64.wrap (((n + 1 : Nat) : Int) - 1) = (n : Int) := by
  rw [IntKind.wrap_i64]
  omega
 rw [hl] at hlen
 clear h hh hx hl
 go_enter Tryz.func69, Tryz.ntmps69
 go_wp2_with fail
 rw [m_len]
 simp only [Result.andThen, e_len, Oper.upon]
 refine hlen.mono ?_
 rintro e w1 ⟨rfl, rfl⟩
 clear hlen
 by_cases hin : i = n
 ·subst hin
  have hne : ((i : Int) != (i : Int)) = false := by simp
  have hz := last_of HL.out HX0.out
  have HZ : Hid (Sd w1 s k v (L.take i ++ [x]) nd o ∧ HeapOk (lessOf k nd) (L.take i).length (L.take i) ∧ (L.take i ++ [x]).Perm L ∧ Mod (fun t => v.ownBlock = some t ∨ t ∈ L) w1 w1) := Lib.hid (by
   rw [← hz]
   refine ⟨H.out, ?_, .refl _, Mod.refl _ _⟩
   have h1 : (L.take i).length = i := by rw [List.length_take, HL.out]; omega
   rw [h1]
   exact (HHo.out.mono (by rw [HL.out]; omega)).take)
  have HL2 : Hid ((L.take i).length ≤ 900000) := Lib.hid (by rw [List.length_take]; omega)
  clear hz
  go_wp2_with fail
  rw [m_pop]
  simp only [Result.andThen, e_pop, Oper.upon]
  refine (pop_c HZ.out.1 HL2.out).mono ?_
  rintro e w9 ⟨rfl, v', hS9, hm9, hv9⟩
  have HX := Lib.hid (And.intro hS9 (And.intro hm9 hv9))
  clear hS9 hm9 hv9
  go_wp2_with fail
  go_ret
  obtain ⟨hS9, hm9, hv9⟩ := HX.out
  obtain ⟨z1, z2, z3, z4⟩ := HZ.out
  have kx := z1.nodes _ x (by rw [List.getElem?_append_right (Nat.le_refl _), Nat.sub_self]; rfl)
  exact ⟨v', _, rfl, hS9, z2, z3, (z4.mono (fun _ _ e => .inr e)).then hm9 (fun _ _ e => .inl e), hv9, _, hm9.at kx (fun e => ne_of_obj kx z1.side (obj_ty (by decide)) e)⟩
 ·have hne : ((n : Int) != (i : Int)) = true := by
   rw [bne_iff_ne]
   omega
  have hin2 : i < n := by omega
  go_wp2_with fail
  rw [m_swap]
  simp only [Result.andThen, e_swap, Oper.upon]
  refine (swap_c H.out (i := i) (j := n) (by rw [HL.out]; omega) (by rw [HL.out]; omega) (by omega)).mono ?_
  rintro e w2 ⟨rfl, hS2, m2⟩
  have HS2 := Lib.hid hS2
  have HM2 := Lib.hid m2
  clear hS2 m2
  have HSI : Hid (SiftOk (lessOf k nd) n (swapL L i n) i) := Lib.hid (HeapOk.sift (weak_less k nd) (by rw [← HL.out]; exact HHo.out) HL.out hin2)
  have HLs : Hid ((swapL L i n).length = n + 1) := Lib.hid (by rw [swapL_length, HL.out])
  have HPs : Hid ((swapL L i n).Perm L) := Lib.hid (swapL_perm (by rw [HL.out]; omega) (by rw [HL.out]; omega))
  have HXs : Hid ((swapL L i n)[n]? = some x) := Lib.hid (by rw [swapL_get (by rw [HL.out]; omega) (by rw [HL.out]; omega), if_pos rfl, HX0.out])
  generalize swapL L i n = Ls at *
  go_wp2_with fail
  go_at_call 88
  refine (down_c HS2.out (n := n) (i0 := i) (by rw [HLs.out]; omega) hin2 (by rw [HLs.out]; omega) HSI.out).mono ?_
  rintro e w3 ⟨L3, moved, rfl, hE⟩
  have HE := Lib.hid hE
  clear hE
  cases moved
  ·go_wp2_with fail
   go_at_call 89
   refine (up_c HE.out.1 (n := n) (j := i) (by rw [HE.out.2.2.2.1.length_eq, HLs.out]; omega) hin2 (by rw [HE.out.2.2.2.1.length_eq, HLs.out]; omega) (HE.out.2.2.1 rfl)).mono ?_
   rintro e w4 ⟨rfl, L4, h1, h2, h3, h4, h5⟩
   have hz := last_of (L2 := L4) (n := n) (x := x) (by rw [h3.length_eq, HE.out.2.2.2.1.length_eq, HLs.out]) (by rw [h4 n (Nat.le_refl _), HE.out.2.2.2.2.1 n (Nat.le_refl _), HXs.out])
   have HZ : Hid (Sd w4 s k v (L4.take n ++ [x]) nd o ∧ HeapOk (lessOf k nd) (L4.take n).length (L4.take n) ∧ (L4.take n ++ [x]).Perm L ∧ Mod (fun t => v.ownBlock = some t ∨ t ∈ L) w1 w4) := Lib.hid (by
    rw [← hz]
    have e1 : (L4.take n).length = n := by rw [List.length_take, h3.length_eq, HE.out.2.2.2.1.length_eq, HLs.out]; omega
    refine ⟨h1, by rw [e1]; exact h2.take, (h3.trans HE.out.2.2.2.1).trans HPs.out, (HM2.out.then HE.out.2.2.2.2.2 (fun t _ e => e.elim .inl (fun e => .inr (HPs.out.mem_iff.1 e)))).then h5 (fun t _ e => e.elim .inl (fun e => .inr (HPs.out.mem_iff.1 (HE.out.2.2.2.1.mem_iff.1 e))))⟩)
   have HL2 : Hid ((L4.take n).length ≤ 900000) := Lib.hid (by rw [List.length_take]; omega)
   clear hz h1 h2 h3 h4 h5
   go_wp2_with fail
   rw [m_pop]
   simp only [Result.andThen, e_pop, Oper.upon]
   refine (pop_c HZ.out.1 HL2.out).mono ?_
   rintro e w9 ⟨rfl, v', hS9, hm9, hv9⟩
   have HX := Lib.hid (And.intro hS9 (And.intro hm9 hv9))
   clear hS9 hm9 hv9
   go_wp2_with fail
   go_ret
   obtain ⟨hS9, hm9, hv9⟩ := HX.out
   obtain ⟨z1, z2, z3, z4⟩ := HZ.out
   have kx := z1.nodes _ x (by rw [List.getElem?_append_right (Nat.le_refl _), Nat.sub_self]; rfl)
   exact ⟨v', _, rfl, hS9, z2, z3, (z4.mono (fun _ _ e => .inr e)).then hm9 (fun _ _ e => .inl e), hv9, _, hm9.at kx (fun e => ne_of_obj kx z1.side (obj_ty (by decide)) e)⟩
  ·have hz := last_of (L2 := L3) (n := n) (x := x) (by rw [HE.out.2.2.2.1.length_eq, HLs.out]) (by rw [HE.out.2.2.2.2.1 n (Nat.le_refl _), HXs.out])
   have HZ : Hid (Sd w3 s k v (L3.take n ++ [x]) nd o ∧ HeapOk (lessOf k nd) (L3.take n).length (L3.take n) ∧ (L3.take n ++ [x]).Perm L ∧ Mod (fun t => v.ownBlock = some t ∨ t ∈ L) w1 w3) := Lib.hid (by
    rw [← hz]
    have e1 : (L3.take n).length = n := by rw [List.length_take, HE.out.2.2.2.1.length_eq, HLs.out]; omega
    refine ⟨HE.out.1, by rw [e1]; exact (HE.out.2.1 rfl).take, HE.out.2.2.2.1.trans HPs.out, HM2.out.then HE.out.2.2.2.2.2 (fun t _ e => e.elim .inl (fun e => .inr (HPs.out.mem_iff.1 e)))⟩)
   have HL2 : Hid ((L3.take n).length ≤ 900000) := Lib.hid (by rw [List.length_take]; omega)
   clear hz
   go_wp2_with fail
   rw [m_pop]
   simp only [Result.andThen, e_pop, Oper.upon]
   refine (pop_c HZ.out.1 HL2.out).mono ?_
   rintro e w9 ⟨rfl, v', hS9, hm9, hv9⟩
   have HX := Lib.hid (And.intro hS9 (And.intro hm9 hv9))
   clear hS9 hm9 hv9
   go_wp2_with fail
   go_ret
   obtain ⟨hS9, hm9, hv9⟩ := HX.out
   obtain ⟨z1, z2, z3, z4⟩ := HZ.out
   have kx := z1.nodes _ x (by rw [List.getElem?_append_right (Nat.le_refl _), Nat.sub_self]; rfl)
   exact ⟨v', _, rfl, hS9, z2, z3, (z4.mono (fun _ _ e => .inr e)).then hm9 (fun _ _ e => .inl e), hv9, _, hm9.at kx (fun e => ne_of_obj kx z1.side (obj_ty (by decide)) e)⟩
end
end Go.Proofs.YtdeghpmlhcaedaaGreatDoor
namespace Go.Proofs.YtdeghpmlhcaedaaGreatDoor
open Go.RowKit Go.Sort
open Go.ChangeMaps (setBlock)
attribute [local go_sem ↓] wlRk ldRk stRk eqRk eqRk2
attribute [local go_sem] rkc_size ndc_size cell_blk frozen_blk one_int one_bool one_ptr one_slice one_map Value.cells enter_fn
def idv (i : Int64) : Value := .int .i64 i.toInt
theorem idT : KeyT Tryz.prog 3 idv where
 law := Maps.int_keyed Tryz.underlying3
 lit k := ⟨.int .i64 k.toInt, Maps.keyOf_int_mk Tryz.underlying3 (by
  have h1 := k.toInt_lt
  have h2 := k.le_toInt
  simp [Lit.wf, IntKind.min, IntKind.max, IntKind.bits, IntKind.signed]
  omega)⟩
 inj a b h := by
  simp only [idv, Value.int.injEq, true_and] at h
  exact Int64.toInt_inj.1 h
structure Hp (w : World) (h s0 s1 mb : Nat) (v0 v1 : Value) (L0 L1 : List Nat) (nd : Nat → Nd) (m : List (Int64 × Nat)) : Prop where
 kh : w.heap[h]? = some (.cells #[ptrV s0, ptrV s1, .map (some mb)] 99 (0, 0))
 km : ∃ es c, w.heap[mb]? = some (.map es c) ∧ MapIs idv ptrV es c m
 d0 : Sd w s0 false v0 L0 nd (fun b => (L1.idxOf b : Int))
 d1 : Sd w s1 true v1 L1 nd (fun b => (L0.idxOf b : Int))
 ok0 : HeapOk (lessOf false nd) L0.length L0
 ok1 : HeapOk (lessOf true nd) L1.length L1
 p0 : L0.Perm (m.map Prod.snd)
 p1 : L1.Perm (m.map Prod.snd)
 ids : ∀ i b, (i, b) ∈ m → (nd b).id = i
 ap : ∀ g, v0.ownBlock = some g → v1.ownBlock ≠ some g
 ss : s0 ≠ s1
def Hown (h s0 s1 mb : Nat) (v0 v1 : Value) (L0 : List Nat) (i : Nat) : Prop := i = h ∨ i = s0 ∨ i = s1 ∨ i = mb ∨ v0.ownBlock = some i ∨ v1.ownBlock = some i ∨ i ∈ L0
def HAt (h : Nat) (C : List Nd) (T : Nat → Prop) (w : World) : Prop := ∃ s0 s1 mb v0 v1 L0 L1 nd m, Hp w h s0 s1 mb v0 v1 L0 L1 nd m ∧ C = m.map (fun p => nd p.2) ∧ ∀ i, Hown h s0 s1 mb v0 v1 L0 i → T i
theorem Hp.mod {w w' : World} {h s0 s1 mb : Nat} {v0 v1 : Value} {L0 L1 : List Nat} {nd : Nat → Nd} {m : List (Int64 × Nat)} {S : Nat → Prop} (H : Hp w h s0 s1 mb v0 v1 L0 L1 nd m) (hm : Mod S w w') (hS : ∀ i, Hown h s0 s1 mb v0 v1 L0 i → ¬ S i) : Hp w' h s0 s1 mb v0 v1 L0 L1 nd m := by
 obtain ⟨es, c, kb, M⟩ := H.km
 have hL : ∀ b, b ∈ L1 → b ∈ L0 := fun b hb => H.p0.mem_iff.2 (H.p1.mem_iff.1 hb)
 exact ⟨hm.at H.kh (hS _ (.inl rfl)), ⟨es, c, hm.at kb (hS _ (.inr (.inr (.inr (.inl rfl))))), M⟩,
  H.d0.mod hm (hS _ (.inr (.inl rfl))) (fun g hg => hS _ (.inr (.inr (.inr (.inr (.inl hg)))))) (fun b hb => hS _ (.inr (.inr (.inr (.inr (.inr (.inr hb))))))),
  H.d1.mod hm (hS _ (.inr (.inr (.inl rfl)))) (fun g hg => hS _ (.inr (.inr (.inr (.inr (.inr (.inl hg))))))) (fun b hb => hS _ (.inr (.inr (.inr (.inr (.inr (.inr (hL b hb)))))))), H.ok0, H.ok1, H.p0, H.p1, H.ids, H.ap, H.ss⟩
theorem HAt.good (h : Nat) (C : List Nd) : Good (HAt h C) where
 cl := by
  rintro T w w' ⟨s0, s1, mb, v0, v1, L0, L1, nd, m, H, hC, hT⟩ hm
  exact ⟨s0, s1, mb, v0, v1, L0, L1, nd, m, H.mod hm (fun i hi hn => hn (hT i hi)), hC, hT⟩
 gr := by
  rintro T T' w hT ⟨s0, s1, mb, v0, v1, L0, L1, nd, m, H, hC, hO⟩
  exact ⟨s0, s1, mb, v0, v1, L0, L1, nd, m, H, hC, fun i hi => hT i (hO i hi)⟩
theorem bld0 (w : World) : (Instr.build 103 #[(0, .int .i64 0), (1, .func (.func 33) #[] #[])]).run Tryz.prog w = .ok (.agg (sdc false (.slice none 0 0))) w := by kernel_rfl
theorem bld1 (w : World) : (Instr.build 103 #[(0, .int .i64 1), (1, .func (.func 34) #[] #[])]).run Tryz.prog w = .ok (.agg (sdc true (.slice none 0 0))) w := by kernel_rfl
theorem eqMap (w : World) (r : Option Nat) : (binOp .eql 95 (.map r) (.map none)).run Tryz.prog w = .ok (.bool r.isNone) w := run_eql_map_nil w _ _ _ _ Tryz.underlying95
theorem neMap (w : World) (r : Option Nat) : (binOp .neq 95 (.map r) (.map none)).run Tryz.prog w = .ok (.bool !r.isNone) w := run_neq_map_nil w _ _ _ _ Tryz.underlying95
attribute [local go_sem] eqMap neMap
set_option maxRecDepth 20000 in
theorem there_c {w : World} {h b : Nat} {x y : Value} (kh : w.heap[h]? = some (.cells #[x, y, .map (some b)] 99 (0, 0))) : Calls Tryz.prog 68 #[ptrV h] w fun e w' => e = .returned (.bool true) ∧ w' = w := by
 go_enter Tryz.func68, Tryz.ntmps68
 go_wp2_with fail
 go_ret
 exact ⟨rfl, rfl⟩
set_option maxRecDepth 20000 in
set_option maxHeartbeats 1600000 in
theorem new_c (w : World) : Calls Tryz.prog 10 #[] w fun e w' => ∃ h, e = .returned (ptrV h) ∧ ∃ T, HAt h [] T w' ∧ Mod (fun _ => False) w w' ∧ (∀ i, T i → w.heap.size ≤ i ∧ i < w'.heap.size) := by
 have hmm := @run_makeMap Tryz.prog
 have hb0 := bld0
 have hb1 := bld1
 go_enter Tryz.func10, Tryz.ntmps10
 go_upto_region 2 with fail
 obtain ⟨h1, h2⟩ := fresh2 w (.map #[] 0) (.cells #[.pointer none, .pointer none, .map (some w.heap.size)] 99)
 have m0 : Mod (fun _ => False) w ((w.alloc (.map #[] 0)).alloc (.cells #[.pointer none, .pointer none, .map (some w.heap.size)] 99)) := ((Mod.refl _ _).alloc _).alloc _
 have hsz := m0.size
 have hw1 := lt_size h1
 have hw2 := lt_size h2
 generalize (w.alloc (.map #[] 0)).alloc (.cells #[.pointer none, .pointer none, .map (some w.heap.size)] 99) = w0 at *
 generalize hb : w.heap.size = b at *
 have Lh1 := lt_size h1
 have Lh2 := lt_size h2
 refine wp_pass0 (C := fun _ _ _ => False) (κ := fun i => [0, 0, 3, 0, 0, 0, 5].getD i 0) [0, 1, 2, 3, 4, 5, 6] (by kernel_rfl) (by kernel_rfl) (fun _ _ d _ _ h => by cases d <;> first | exact h | exact absurd h (hP _ _ _)) ?_
 (refine TD.val0 (v := ?v1) (by simp only [zK]; rfl) rfl (by rfl) (fun w1 => ?y1) ?n1; (case y1 => go_simp; try with_reducible rfl); try simp only [Act.put, zL])
 (refine TD.build (v := ?v2) (ps := ?p2) (by simp only [zK]; rfl) rfl (by rfl) rfl ?hx2 (fun w1 => ?y2) ?n2; (case hx2 => (simp only [List.map_toArray, List.map_cons, List.map_nil, Act.eval, zM]; (try rfl))); (case y2 => (rw [hb0]; (try with_reducible rfl))); try simp only [Act.put, zL])
 (refine TD.box (v := ?v3) (by simp only [zK]; rfl) rfl (by rfl) rfl rfl ?hx3 (fun p7 hp7 => ?n3); (case hx3 => simp only [Act.eval, zM]; try rfl); try simp only [Act.put, zL])
 (refine TD.val0 (v := ?v4) (by simp only [zK]; rfl) rfl (by rfl) (fun w1 => ?y4) ?n4; (case y4 => go_simp; try with_reducible rfl); try simp only [Act.put, zL])
 (refine TD.val0 (v := ?v5) (by simp only [zK]; rfl) rfl (by rfl) (fun w1 => ?y5) ?n5; (case y5 => go_simp; try with_reducible rfl); try simp only [Act.put, zL])
 (refine TD.val0 (v := ?v6) (by simp only [zK]; rfl) rfl (by rfl) (fun w1 => ?y6) ?n6; (case y6 => go_simp; try with_reducible rfl); try simp only [Act.put, zL])
 refine TD.eff (by simp only [zK]; rfl) rfl (fun wE hr => ?_)
 have h1 := hr.mod.at0 h1
 have h2 := hr.mod.at0 h2
 have mE := hr.mod
 (refine eff_store (X := ?X7) (Y := ?Y7) (w' := ?w7) (by simp only [zK]; rfl) (by rfl) rfl ?hx7 ?hz7 ?y7 ?n7; (case hx7 => simp only [Act.eval, zM]; try rfl); (case hz7 => simp only [Act.eval, zM]; try rfl); (case y7 => go_simp; try with_reducible rfl))
 (first | refine TE.nil_set h2 (fun w1 h2 mS => ?_) | refine TE.nil_setCell h2 (fun w1 h2 mS => ?_))
 (try simp only [Array.setIfInBounds, zL] at h2)
 have h1 := mS.at_ne h1 (by omega)
 obtain ⟨g7, kp7⟩ := hr.box p7 _ (Bx.set_same _ _ _)
 replace kp7 := mS.at_ne kp7 (by omega)
 have hr1 : w1.heap[b + 1]? = some (.cells #[.pointer (some ⟨p7, 0, none⟩), .pointer none, .map (some b)] 99 (0, 0)) := h2
 have m1 : Mod (fun i => i = b + 1) w w1 := ((m0.then0 mE).mono (fun _ _ h => h.elim)).then mS (fun _ _ h => h)
 have s01 := mE.size
 have s12 := mS.size
 clear h2 hr mE mS hb0
 go_upto_region 3 with fail
 have Lh1 := lt_size h1
 have Lkp7 := lt_size kp7
 have Lhr1 := lt_size hr1
 refine wp_pass0 (C := fun _ _ _ => False) (κ := fun i => [0, 0, 3, 0, 0, 0, 5].getD i 0) [0, 1, 2, 3, 4, 5, 6] (by kernel_rfl) (by kernel_rfl) (fun _ _ d _ _ h => by cases d <;> first | exact h | exact absurd h (hP _ _ _)) ?_
 (refine TD.val0 (v := ?v8) (by simp only [zK]; rfl) rfl (by rfl) (fun w1 => ?y8) ?n8; (case y8 => go_simp; try with_reducible rfl); try simp only [Act.put, zL])
 (refine TD.build (v := ?v9) (ps := ?p9) (by simp only [zK]; rfl) rfl (by rfl) rfl ?hx9 (fun w1 => ?y9) ?n9; (case hx9 => (simp only [List.map_toArray, List.map_cons, List.map_nil, Act.eval, zM]; (try rfl))); (case y9 => (rw [hb1]; (try with_reducible rfl))); try simp only [Act.put, zL])
 (refine TD.box (v := ?v10) (by simp only [zK]; rfl) rfl (by rfl) rfl rfl ?hx10 (fun p13 hp13 => ?n10); (case hx10 => simp only [Act.eval, zM]; try rfl); try simp only [Act.put, zL])
 (refine TD.val0 (v := ?v11) (by simp only [zK]; rfl) rfl (by rfl) (fun w1 => ?y11) ?n11; (case y11 => go_simp; try with_reducible rfl); try simp only [Act.put, zL])
 (refine TD.val0 (v := ?v12) (by simp only [zK]; rfl) rfl (by rfl) (fun w1 => ?y12) ?n12; (case y12 => go_simp; try with_reducible rfl); try simp only [Act.put, zL])
 (refine TD.val0 (v := ?v13) (by simp only [zK]; rfl) rfl (by rfl) (fun w1 => ?y13) ?n13; (case y13 => go_simp; try with_reducible rfl); try simp only [Act.put, zL])
 refine TD.eff (by simp only [zK]; rfl) rfl (fun wE hr => ?_)
 have h1 := hr.mod.at0 h1
 have kp7 := hr.mod.at0 kp7
 have hr1 := hr.mod.at0 hr1
 have mE := hr.mod
 (refine eff_store (X := ?X14) (Y := ?Y14) (w' := ?w14) (by simp only [zK]; rfl) (by rfl) rfl ?hx14 ?hz14 ?y14 ?n14; (case hx14 => simp only [Act.eval, zM]; try rfl); (case hz14 => simp only [Act.eval, zM]; try rfl); (case y14 => go_simp; try with_reducible rfl))
 (first | refine TE.nil_set hr1 (fun w2 hr1 mS => ?_) | refine TE.nil_setCell hr1 (fun w2 hr1 mS => ?_))
 (try simp only [Array.setIfInBounds, zL] at hr1)
 have h1 := mS.at_ne h1 (by omega)
 have kp7 := mS.at_ne kp7 (by omega)
 obtain ⟨g13, kp13⟩ := hr.box p13 _ (Bx.set_same _ _ _)
 replace kp13 := mS.at_ne kp13 (by omega)
 have m2 : Mod (fun i => i = b + 1) w w2 := (m1.then0 mE).then mS (fun _ _ h => h)
 have s23 := mE.size
 have s34 := mS.size
 have kh : w2.heap[b + 1]? = some (.cells #[ptrV p7, ptrV p13, .map (some b)] 99 (0, 0)) := hr1
 have HKH := Lib.hid kh
 have H7 := Lib.hid kp7
 have H13 := Lib.hid kp13
 clear hr mE mS hb1 hr1 kh kp7 kp13
 go_wp2_with fail
 go_ret
 have l13 := lt_size H13.out
 refine ⟨b + 1, rfl, fun i => b ≤ i ∧ i < w2.heap.size, ⟨p7, p13, b, .slice none 0 0, .slice none 0 0, [], [], fun _ => ⟨rk0, 0⟩, [], ⟨HKH.out, ⟨_, _, h1, MapIs.empty idv ptrV⟩, ⟨H7.out, SlOwn.nil _ _, fun i b hb => (by cases hb)⟩, ⟨H13.out, SlOwn.nil _ _, fun i b hb => (by cases hb)⟩, fun c _ hc => (by cases hc), fun c _ hc => (by cases hc), .refl _, .refl _, fun i b hb => (by cases hb), fun g hg => (by cases hg), (by omega)⟩, rfl, fun i hi => ?_⟩, m2.mono (fun i hi e => by omega), fun i hi => hi⟩
 rcases hi with e | e | e | e | e | e | e
 ·subst e; omega
 ·subst e; omega
 ·subst e; omega
 ·subst e; omega
 ·cases e
 ·cases e
 ·cases e
end Go.Proofs.YtdeghpmlhcaedaaGreatDoor
namespace Go.Proofs.YtdeghpmlhcaedaaGreatDoor
open Go.RowKit Go.Sort
open Go.ChangeMaps (setBlock)
attribute [local go_sem ↓] wlRk ldRk stRk eqRk eqRk2
attribute [local go_sem] rkc_size ndc_size cell_blk frozen_blk one_int one_bool one_ptr one_slice one_map Value.cells enter_fn eqMap neMap
section
variable {w w' : World} {s s' : Nat} {k : Bool} {v v' : Value} {L L' : List Nat} {nd nd' : Nat → Nd} {o o' : Nat → Int}
theorem Sd.congr (h : Sd w s k v L nd o) (hnd : ∀ b ∈ L, nd' b = nd b) (ho : ∀ b ∈ L, o' b = o b) : Sd w s k v L nd' o' :=
 ⟨h.side, h.own, fun i b hb => by rw [hnd b (List.mem_of_getElem? hb), ho b (List.mem_of_getElem? hb)]; exact h.nodes i b hb⟩
theorem ndc_not (k : Bool) (x : Nd) (i o : Int) : ndc (!k) x i o = ndc k x o i := by cases k <;> rfl
theorem Sd.other (h : Sd w s k v L nd o) (hs : w.heap[s']? = some (.cells (sdc (!k) v') 103 (0, 0))) (hown : SlOwn pc 1 104 w 0 v' L') (hsub : ∀ b ∈ L', b ∈ L) (ho : ∀ (i b : Nat), L'[i]? = some b → o b = i) :
  Sd w s' (!k) v' L' nd (fun b => (L.idxOf b : Int)) := by
 refine ⟨hs, hown, fun i b hb => ?_⟩
 have hm := hsub b (List.mem_of_getElem? hb)
 have h1 := h.nodes (L.idxOf b) b (by rw [List.getElem?_eq_getElem (List.idxOf_lt_length_of_mem hm)]; simp)
 rw [ndc_not, ← ho i b hb]
 exact h1
theorem idx_at {L : List Nat} (h : L.Nodup) {i b : Nat} (hb : L[i]? = some b) : (L.idxOf b : Int) = i := by
 obtain ⟨hi, rfl⟩ := List.getElem?_eq_some_iff.1 hb
 rw [h.idxOf_getElem]
theorem HeapOk.congr {lt lt' : Nat → Nat → Bool} {n : Nat} {L : List Nat} (h : HeapOk lt n L) (he : ∀ a ∈ L, ∀ b ∈ L, lt' a b = lt a b) : HeapOk lt' n L := fun c hc hcn a b ha hb => by
 rw [he a (List.mem_of_getElem? ha) b (List.mem_of_getElem? hb)]
 exact h c hc hcn a b ha hb
end
theorem ldSides (w : World) (b o : Nat) : (Instr.loadAt 97 (.pointer (some ⟨b, o, none⟩))).run Tryz.prog w =
   match w.heap[b]? with
   | some (.cells cs _ _) => if o + 2 ≤ cs.size then .ok (.agg (cs.extract o (o + 2))) w else farL Tryz.prog w 97 b o
   | _ => farL Tryz.prog w 97 b o := load_rule (d := _) Tryz.underlying97 rfl (by kernel_rfl) w b o
theorem stSides (w : World) (b o : Nat) (xs : Array Value) : (Instr.storeAt 97 (.pointer (some ⟨b, o, none⟩)) (.agg xs)).run Tryz.prog w =
   match w.heap[b]? with
   | some (.cells cs U (0, 0)) =>
    if o + 2 ≤ cs.size ∧ xs.size = 2 ∧ xs.all (·.oneCell') = true then .ok () (setBlock w b (.cells (if o = 0 ∧ 2 = cs.size then xs else wr cs o xs.toList) U (0, 0))) else farS Tryz.prog w 97 b o (.agg xs)
   | _ => farS Tryz.prog w 97 b o (.agg xs) := store_rule (by kernel_rfl) w b o xs
theorem wlSides (dst : Option Tmp) (x : Operand) (ty : TypeId) (pos : String) (after : Array Edge) (g : Option (Nat × Bool)) (a : Act) (w : World) (K : Act → World → Prop) (Q : Exit → Act → World → Prop) :
  Oper.wp Tryz.prog { dst := dst, op := .load 97 x, type := ty, pos := pos, after := after, guard := g } a w K Q =
   (match a.eval x with
   | .pointer (some ⟨b, o, none⟩) =>
    (match w.heap[b]? with
    | some (.cells cs _ _) => if o + 2 ≤ cs.size then K (a.put dst (.agg (cs.extract o (o + 2)))) w else farW Tryz.prog { dst := dst, op := .load 97 x, type := ty, pos := pos, after := after, guard := g } a w K Q
    | _ => farW Tryz.prog { dst := dst, op := .load 97 x, type := ty, pos := pos, after := after, guard := g } a w K Q)
   | _ => farW Tryz.prog { dst := dst, op := .load 97 x, type := ty, pos := pos, after := after, guard := g } a w K Q) := wp_load_rule (d := _) Tryz.underlying97 rfl (by kernel_rfl) dst x ty pos after g a w K Q
attribute [local go_sem ↓] wlSides ldSides stSides
theorem ix0 (a b : Nat) (w : World) : (Instr.index 97 (.agg #[ptrV a, ptrV b]) (.int .i64 0)).run Tryz.prog w = .ok (ptrV a) w := by kernel_rfl
theorem ix1 (a b : Nat) (w : World) : (Instr.index 97 (.agg #[ptrV a, ptrV b]) (.int .i64 1)).run Tryz.prog w = .ok (ptrV b) w := by kernel_rfl
attribute [local go_sem] ix0 ix1
theorem bldN (r : Rk) (id : Int64) (w : World) : (Instr.build 128 #[(0, .agg #[.int .u64 (r.p.toNat : Int), .int .u64 (r.n.toNat : Int)]), (1, .int .i64 id.toInt)]).run Tryz.prog w = .ok (.agg (ndc false ⟨r, id⟩ 0 0)) w := by kernel_rfl
def upd (nd : Nat → Nd) (n : Nat) (x : Nd) (b : Nat) : Nd := if b = n then x else nd b
def Pu1 (w0 ws : World) (s0 s1 mb : Nat) (v0 v1 v0' : Value) (L0 L1 L0' : List Nat) (nd : Nat → Nd) (n : Nat) : Prop :=
 Sd ws s0 false v0' L0' nd (fun b => if b = n then 0 else (L1.idxOf b : Int)) ∧ Sd ws s1 true v1 L1 nd (fun b => (L0'.idxOf b : Int)) ∧ (∃ i : Int, ws.heap[n]? = some (.cells (ndc true (nd n) 0 i) 128 (0, 0)) ∧ i = L0'.idxOf n) ∧ HeapOk (lessOf false nd) L0'.length L0' ∧ L0'.Perm (L0 ++ [n]) ∧
   Mod (fun i => i = mb ∨ i = s0 ∨ i = n ∨ v0.ownBlock = some i ∨ i ∈ L0) w0 ws ∧ (∀ g, v0'.ownBlock = some g → v1.ownBlock ≠ some g) ∧ (v0'.ownBlock = v0.ownBlock ∨ ∃ g, v0'.ownBlock = some g ∧ w0.heap.size ≤ g)
def PuS (w0 : World) (h s0 s1 mb : Nat) (v0 v1 : Value) (L0 L1 : List Nat) (nd : Nat → Nd) (m : List (Int64 × Nat)) (n : Nat) (j : Nat) (ws : World) : Prop :=
 ws.heap[h]? = some (.cells #[ptrV s0, ptrV s1, .map (some mb)] 99 (0, 0)) ∧ (∃ es c, ws.heap[mb]? = some (.map es c) ∧ MapIs idv ptrV es c m) ∧
 match j with
 | 0 => Sd ws s0 false v0 L0 nd (fun b => if b = n then 0 else (L1.idxOf b : Int)) ∧ Sd ws s1 true v1 L1 nd (fun b => (L0.idxOf b : Int)) ∧ ws.heap[n]? = some (.cells (ndc false (nd n) 0 0) 128 (0, 0)) ∧ Mod (fun i => i = mb) w0 ws
 | 1 => ∃ v0' L0', Pu1 w0 ws s0 s1 mb v0 v1 v0' L0 L1 L0' nd n
 | _ => ∃ v0' L0' v1' L1', Hp ws h s0 s1 mb v0' v1' L0' L1' nd m ∧ L0'.Perm (L0 ++ [n]) ∧ Mod (fun i => i = mb ∨ i = s0 ∨ i = s1 ∨ i = n ∨ v0.ownBlock = some i ∨ v1.ownBlock = some i ∨ i ∈ L0 ∨ i ∈ L1) w0 ws ∧
   (v0'.ownBlock = v0.ownBlock ∨ ∃ g, v0'.ownBlock = some g ∧ w0.heap.size ≤ g) ∧ (v1'.ownBlock = v1.ownBlock ∨ ∃ g, v1'.ownBlock = some g ∧ w0.heap.size ≤ g)
theorem PuS.one {w0 ws w1 : World} {h s0 s1 mb : Nat} {v0 v1 v0' : Value} {L0 L1 L0' : List Nat} {nd : Nat → Nd} {m : List (Int64 × Nat)} {n : Nat} (H : PuS w0 h s0 s1 mb v0 v1 L0 L1 nd m n 0 ws) (hss : s0 ≠ s1) (hap : ∀ g, v0.ownBlock = some g → v1.ownBlock ≠ some g) (hn1 : n ∉ L1) (hp : L1.Perm L0)
  (hS : Sd w1 s0 false v0' L0' nd (fun b => if b = n then 0 else (L1.idxOf b : Int))) (hok : HeapOk (lessOf false nd) L0'.length L0') (hperm : L0'.Perm (L0 ++ [n])) (hm : Mod (fun x => x = s0 ∨ x = n ∨ v0.ownBlock = some x ∨ x ∈ L0) ws w1)
  (hv : v0'.ownBlock = v0.ownBlock ∨ ∃ g, v0'.ownBlock = some g ∧ ws.heap.size ≤ g) : PuS w0 h s0 s1 mb v0 v1 L0 L1 nd m n 1 w1 := by
 obtain ⟨kh, ⟨es, c, kb, M⟩, d0, d1, kn, m0⟩ := H
 have own0 : ∀ (x : Nat) (ob : Obj), ws.heap[x]? = some ob → (∀ cs, ob ≠ .cells cs 104 (0, 0)) → v0.ownBlock ≠ some x := fun x ob hx hne e => by
  obtain ⟨cur, kg⟩ := own_block d0.own e
  rw [hx] at kg
  exact hne _ (Option.some.inj kg)
 have inL : ∀ (x : Nat) (ob : Obj), ws.heap[x]? = some ob → (∀ cs, ob ≠ .cells cs 128 (0, 0)) → x ∉ L0 := fun x ob hx hne e => by
  obtain ⟨i, hi⟩ := List.mem_iff_getElem?.1 e
  have := d0.nodes i x hi
  rw [hx] at this
  exact hne _ (Option.some.inj this)
 have kh1 := hm.at kh (fun e => by
  rcases e with e | e | e | e
  ·exact ne_of_obj kh d0.side (obj_ty (by decide)) e
  ·exact ne_of_obj kh kn (obj_ty (by decide)) e
  ·exact own0 _ _ kh (fun _ => obj_ty (by decide)) e
  ·exact inL _ _ kh (fun _ => obj_ty (by decide)) e)
 have kb1 := hm.at kb (fun e => by
  rcases e with e | e | e | e
  ·exact ne_of_obj kb d0.side (by simp) e
  ·exact ne_of_obj kb kn (by simp) e
  ·exact own0 _ _ kb (by simp) e
  ·exact inL _ _ kb (by simp) e)
 have ks1 := hm.at d1.side (fun e => by
  rcases e with e | e | e | e
  ·exact hss e.symm
  ·exact ne_of_obj d1.side kn (obj_ty (by decide)) e
  ·exact own0 _ _ d1.side (fun _ => obj_ty (by decide)) e
  ·exact inL _ _ d1.side (fun _ => obj_ty (by decide)) e)
 have ho1 := d1.own.mod hm (fun g hg e => by
  obtain ⟨cur, kg⟩ := own_block d1.own hg
  rcases e with e | e | e | e
  ·exact ne_of_obj kg d0.side (obj_ty (by decide)) e
  ·exact ne_of_obj kg kn (obj_ty (by decide)) e
  ·exact hap g e hg
  ·exact inL _ _ kg (fun _ => obj_ty (by decide)) e)
 have hsub : ∀ b ∈ L1, b ∈ L0' := fun b hb => hperm.mem_iff.2 (List.mem_append_left _ (hp.mem_iff.1 hb))
 have hd1 := hS.other ks1 ho1 hsub (fun i b hb => by
  have hbn : b ≠ n := fun e => hn1 (e ▸ List.mem_of_getElem? hb)
  show (if b = n then 0 else (L1.idxOf b : Int)) = i
  rw [if_neg hbn]
  exact idx_at d1.nodup hb)
 have hnm : n ∈ L0' := hperm.mem_iff.2 (by simp)
 have hk := hS.nodes (L0'.idxOf n) n (by rw [List.getElem?_eq_getElem (List.idxOf_lt_length_of_mem hnm)]; simp)
 rw [if_pos rfl] at hk
 refine ⟨kh1, ⟨es, c, kb1, M⟩, v0', L0', hS, hd1, ⟨_, hk, rfl⟩, hok, hperm, (m0.mono (T := fun i => i = mb ∨ i = s0 ∨ i = n ∨ v0.ownBlock = some i ∨ i ∈ L0) (fun _ _ e => .inl e)).then hm (fun i _ e => .inr e), ?_, ?_⟩
 ·intro g hg e
  rcases hv with hv | ⟨g', hv, hg'⟩
  ·rw [hv] at hg
   exact hap g hg e
  ·rw [hv] at hg
   cases hg
   have := (d1.own.lt _ e).2
   omega
 ·rcases hv with hv | ⟨g', hv, hg'⟩
  ·exact .inl hv
  ·exact .inr ⟨g', hv, Nat.le_trans m0.size hg'⟩
theorem Pu1.two {w0 ws w1 : World} {h s0 s1 mb : Nat} {v0 v1 v0' v1' : Value} {L0 L1 L0' L1' : List Nat} {nd : Nat → Nd} {m : List (Int64 × Nat)} {n : Nat} (kh : ws.heap[h]? = some (.cells #[ptrV s0, ptrV s1, .map (some mb)] 99 (0, 0))) (km : ∃ es c, ws.heap[mb]? = some (.map es c) ∧ MapIs idv ptrV es c m)
  (P1 : Pu1 w0 ws s0 s1 mb v0 v1 v0' L0 L1 L0' nd n) (hss : s0 ≠ s1) (hn1 : n ∉ L1) (hp : L1.Perm L0) (hm2 : (L0 ++ [n]).Perm (m.map Prod.snd)) (hids : ∀ i b, (i, b) ∈ m → (nd b).id = i)
  (hS : Sd w1 s1 true v1' L1' nd (fun b => (L0'.idxOf b : Int))) (hok : HeapOk (lessOf true nd) L1'.length L1') (hperm : L1'.Perm (L1 ++ [n])) (hm : Mod (fun x => x = s1 ∨ x = n ∨ v1.ownBlock = some x ∨ x ∈ L1) ws w1)
  (hv : v1'.ownBlock = v1.ownBlock ∨ ∃ g, v1'.ownBlock = some g ∧ ws.heap.size ≤ g) : PuS w0 h s0 s1 mb v0 v1 L0 L1 nd m n 2 w1 := by
 obtain ⟨es, c, kb, M⟩ := km
 obtain ⟨d0, d1, ⟨i, kn, _⟩, hok0, hperm0, m0, hap, hv0⟩ := P1
 have own1 : ∀ (x : Nat) (ob : Obj), ws.heap[x]? = some ob → (∀ cs, ob ≠ .cells cs 104 (0, 0)) → v1.ownBlock ≠ some x := fun x ob hx hne e => by
  obtain ⟨cur, kg⟩ := own_block d1.own e
  rw [hx] at kg
  exact hne _ (Option.some.inj kg)
 have inL : ∀ (x : Nat) (ob : Obj), ws.heap[x]? = some ob → (∀ cs, ob ≠ .cells cs 128 (0, 0)) → x ∉ L1 := fun x ob hx hne e => by
  obtain ⟨i, hi⟩ := List.mem_iff_getElem?.1 e
  have := d1.nodes i x hi
  rw [hx] at this
  exact hne _ (Option.some.inj this)
 have kh1 := hm.at kh (fun e => by
  rcases e with e | e | e | e
  ·exact ne_of_obj kh d1.side (obj_ty (by decide)) e
  ·exact ne_of_obj kh kn (obj_ty (by decide)) e
  ·exact own1 _ _ kh (fun _ => obj_ty (by decide)) e
  ·exact inL _ _ kh (fun _ => obj_ty (by decide)) e)
 have kb1 := hm.at kb (fun e => by
  rcases e with e | e | e | e
  ·exact ne_of_obj kb d1.side (by simp) e
  ·exact ne_of_obj kb kn (by simp) e
  ·exact own1 _ _ kb (by simp) e
  ·exact inL _ _ kb (by simp) e)
 have ks0 := hm.at d0.side (fun e => by
  rcases e with e | e | e | e
  ·exact hss e
  ·exact ne_of_obj d0.side kn (obj_ty (by decide)) e
  ·exact own1 _ _ d0.side (fun _ => obj_ty (by decide)) e
  ·exact inL _ _ d0.side (fun _ => obj_ty (by decide)) e)
 have ho0 := d0.own.mod hm (fun g hg e => by
  obtain ⟨cur, kg⟩ := own_block d0.own hg
  rcases e with e | e | e | e
  ·exact ne_of_obj kg d1.side (obj_ty (by decide)) e
  ·exact ne_of_obj kg kn (obj_ty (by decide)) e
  ·exact hap g hg e
  ·exact inL _ _ kg (fun _ => obj_ty (by decide)) e)
 have hp2 : (L1 ++ [n]).Perm (L0 ++ [n]) := hp.append_right _
 have hsub : ∀ b ∈ L0', b ∈ L1' := fun b hb => hperm.mem_iff.2 (hp2.mem_iff.2 (hperm0.mem_iff.1 hb))
 have hd0 := hS.other ks0 ho0 hsub (fun i b hb => idx_at d0.nodup hb)
 refine ⟨kh1, ⟨es, c, kb1, M⟩, v0', L0', v1', L1', ⟨kh1, ⟨es, c, kb1, M⟩, hd0, hS, hok0, hok, hperm0.trans hm2, (hperm.trans hp2).trans hm2, hids, fun g hg e => ?_, hss⟩, hperm0, (m0.mono (T := fun i => i = mb ∨ i = s0 ∨ i = s1 ∨ i = n ∨ v0.ownBlock = some i ∨ v1.ownBlock = some i ∨ i ∈ L0 ∨ i ∈ L1) (fun i _ e => ?_)).then hm (fun i _ e => ?_), hv0, ?_⟩
 ·rcases hv with hv | ⟨g', hv, hg'⟩
  ·rw [hv] at e
   exact hap g hg e
  ·rw [hv] at e
   cases e
   have := (d0.own.lt _ hg).2
   omega
 ·rcases e with e | e | e | e | e
  ·exact .inl e
  ·exact .inr (.inl e)
  ·exact .inr (.inr (.inr (.inl e)))
  ·exact .inr (.inr (.inr (.inr (.inl e))))
  ·exact .inr (.inr (.inr (.inr (.inr (.inr (.inl e))))))
 ·rcases e with e | e | e | e
  ·exact .inr (.inr (.inl e))
  ·exact .inr (.inr (.inr (.inl e)))
  ·exact .inr (.inr (.inr (.inr (.inr (.inl e)))))
  ·exact .inr (.inr (.inr (.inr (.inr (.inr (.inr e))))))
 ·rcases hv with hv | ⟨g', hv, hg'⟩
  ·exact .inl hv
  ·exact .inr ⟨g', hv, Nat.le_trans m0.size hg'⟩
set_option maxRecDepth 20000 in
set_option maxHeartbeats 3200000 in
theorem pushH_c {h : Nat} {C : List Nd} {T : Nat → Prop} {w : World} (hA : HAt h C T w) (hT : ∀ i, T i → i < w.heap.size) (r : Rk) (id : Int64) (hC : C.length ≤ 700000) (hid : ∀ x ∈ C, x.id ≠ id) :
  Calls Tryz.prog 43 #[ptrV h, .agg (rkc r), .int .i64 id.toInt] w fun e w' => e = .returned (.int .i64 0) ∧ ∃ T', HAt h (C ++ [⟨r, id⟩]) T' w' ∧ Mod T w w' ∧ (∀ i, T' i → T i ∨ w.heap.size ≤ i) ∧ ∀ i, T' i → i < w'.heap.size := by
 obtain ⟨s0, s1, mb, v0, v1, L0, L1, nd, m, H, rfl, hO⟩ := hA
 have hnone : lkp id m = none := by
  rw [lkp_none_iff]
  intro hmem
  obtain ⟨p, hp, rfl⟩ := List.mem_map.1 hmem
  exact hid _ (List.mem_map.2 ⟨p, hp, rfl⟩) (H.ids _ _ hp)
 obtain ⟨es, c, kb, M⟩ := H.km
 have kh := H.kh
 have HH := Lib.hid H
 have HO := Lib.hid hO
 have HT := Lib.hid hT
 have HC := Lib.hid hC
 have HN := Lib.hid hnone
 have hlk : ∀ wq b', wq.heap[mb]? = some (.map es c) → (Instr.lookup 95 (.map (some mb)) (.int .i64 id.toInt) b').run Tryz.prog wq = _ := fun wq b' hq => M.lookup idT Tryz.underlying95 (z := .pointer none) (fun w => by kernel_rfl) wq hq id b'
 simp only [HN.out, Option.map_none, Option.getD_none, Option.isSome_none] at hlk
 have HLK := Lib.hid hlk
 have hbn := bldN r id
 clear H hO hT hC hid hlk hnone
 show Calls Tryz.prog _ #[ptrV h, .agg #[.int .u64 (r.p.toNat : Int), .int .u64 (r.n.toNat : Int)], .int .i64 id.toInt] w _
 go_enter Tryz.func43, Tryz.ntmps43
 go_upto_region 0 with fail
 have Lkh := lt_size kh
 have Lkb := lt_size kb
 refine wp_pass0 (C := fun _ _ _ => False) (κ := fun i => [3, 0].getD i 0) [0, 1] (by kernel_rfl) (by kernel_rfl) (fun _ _ d _ _ h => by cases d <;> first | exact h | exact absurd h (hP _ _ _)) ?_
 (refine TD.box (v := ?v1) (by simp only [zK]; rfl) rfl (by rfl) rfl rfl ?hx1 (fun p4 hp4 => ?n1); (case hx1 => simp only [Act.eval, zM]; try rfl); try simp only [Act.put, zL])
 (refine TD.val0 (v := ?v2) (by simp only [zK]; rfl) rfl (by rfl) (fun w1 => ?y2) ?n2; (case y2 => go_simp; try with_reducible rfl); try simp only [Act.put, zL])
 refine TD.nil (fun w1 hr => ?_)
 have kh := hr.mod.at kh (fun h => h)
 have kb := hr.mod.at kb (fun h => h)
 have kp4 := hr.box p4 _ (by first | exact Bx.set_same _ _ _ | (simp only [Bx.set_same]; rfl)); dsimp only [Value.cells] at kp4; obtain ⟨gp4, kp4⟩ := kp4
 have m1 := hr.mod
 clear hr
 go_wp2_with fail
 go_at_call 68
 refine (there_c kh).mono ?_
 rintro e w2 ⟨rfl, rfl⟩
 go_upto_region 3 with fail
 have hl : ∀ wq, Mod (fun _ => False) w2 wq → (Instr.lookup 95 (.map (some mb)) (.int .i64 id.toInt) true).run Tryz.prog wq = .ok (.tuple #[.pointer none, .bool false]) wq := fun wq hq => HLK.out wq true (hq.at0 kb)
 have Lkh := lt_size kh
 have Lkb := lt_size kb
 have Lkp4 := lt_size kp4
 refine wp_pass0 (C := fun _ _ _ => False) (κ := fun i => [0, 0, 0, 1, 0, 1, 0, 0, 0, 0, 0].getD i 0) [0, 1, 2, 3, 4, 5, 6, 7, 8, 9, 10] (by kernel_rfl) (by kernel_rfl) (fun _ _ d _ _ h => by cases d <;> first | exact h | exact absurd h (hP _ _ _)) ?_
 (refine TD.val0 (v := ?v3) (by simp only [zK]; rfl) rfl (by rfl) (fun w1 => ?y3) ?n3; (case y3 => go_simp; try with_reducible rfl); try simp only [Act.put, zL])
 (refine TD.val0 (v := ?v4) (by simp only [zK]; rfl) rfl (by rfl) (fun w1 => ?y4) ?n4; (case y4 => go_simp; try with_reducible rfl); try simp only [Act.put, zL])
 (refine TD.val0 (v := ?v5) (by simp only [zK]; rfl) rfl (by rfl) (fun w1 => ?y5) ?n5; (case y5 => go_simp; try with_reducible rfl); try simp only [Act.put, zL])
 (refine TD.load (v := ?v6) (p := ?p6) (Mod.refl _ _) (by simp only [zK]; rfl) rfl (by rfl) rfl ?hx6 (fun wq hSq => ?y6) ?n6; (case hx6 => simp only [Act.eval, zM]; try rfl); (case y6 => (have khq := hSq.at kh (fun h => h); have kbq := hSq.at kb (fun h => h); have kp4q := hSq.at kp4 (fun h => h); go_simp; (try with_reducible rfl))); try simp only [Act.put, zL])
 (refine TD.val0 (v := ?v7) (by simp only [zK]; rfl) rfl (by rfl) (fun w1 => ?y7) ?n7; (case y7 => go_simp; try with_reducible rfl); try simp only [Act.put, zL])
 (refine TD.lookup (v := ?v8) (p := ?p8) (q := ?q8) (Mod.refl _ _) (by simp only [zK]; rfl) rfl (by rfl) rfl ?hx8 ?hz8 (fun wq hSq => ?y8) ?n8; (case hx8 => simp only [Act.eval, zM]; try rfl); (case hz8 => simp only [Act.eval, zM]; try rfl); (case y8 => (rw [hl wq hSq]; (try with_reducible rfl))); try simp only [Act.put, zL])
 (refine TD.val0 (v := ?v9) (by simp only [zK]; rfl) rfl (by rfl) (fun w1 => ?y9) ?n9; (case y9 => go_simp; try with_reducible rfl); try simp only [Act.put, zL])
 (refine TD.val0 (v := ?v10) (by simp only [zK]; rfl) rfl (by rfl) (fun w1 => ?y10) ?n10; (case y10 => go_simp; try with_reducible rfl); try simp only [Act.put, zL])
 (refine TD.val0 (v := ?v11) (by simp only [zK]; rfl) rfl (by rfl) (fun w1 => ?y11) ?n11; (case y11 => go_simp; try with_reducible rfl); try simp only [Act.put, zL])
 (refine TD.val0 (v := ?v12) (by simp only [zK]; rfl) rfl (by rfl) (fun w1 => ?y12) ?n12; (case y12 => go_simp; try with_reducible rfl); try simp only [Act.put, zL])
 (refine TD.val0 (v := ?v13) (by simp only [zK]; rfl) rfl (by rfl) (fun w1 => ?y13) ?n13; (case y13 => go_simp; try with_reducible rfl); try simp only [Act.put, zL])
 refine TD.nil (fun w3 hr => ?_)
 have kh := hr.mod.at kh (fun h => h)
 have kb := hr.mod.at kb (fun h => h)
 have kp4 := hr.mod.at kp4 (fun h => h)
 have m3 := m1.then0 hr.mod
 clear hr hl
 go_upto_region 6 with fail
 have Lkh := lt_size kh
 have Lkb := lt_size kb
 have Lkp4 := lt_size kp4
 refine wp_pass0 (C := fun _ _ _ => False) (κ := fun i => [1, 0, 0, 3, 0].getD i 0) [0, 1, 2, 3, 4] (by kernel_rfl) (by kernel_rfl) (fun _ _ d _ _ h => by cases d <;> first | exact h | exact absurd h (hP _ _ _)) ?_
 (refine TD.load (v := ?v14) (p := ?p14) (Mod.refl _ _) (by simp only [zK]; rfl) rfl (by rfl) rfl ?hx14 (fun wq hSq => ?y14) ?n14; (case hx14 => simp only [Act.eval, zM]; try rfl); (case y14 => (have khq := hSq.at kh (fun h => h); have kbq := hSq.at kb (fun h => h); have kp4q := hSq.at kp4 (fun h => h); go_simp; (try with_reducible rfl))); try simp only [Act.put, zL])
 (refine TD.val0 (v := ?v15) (by simp only [zK]; rfl) rfl (by rfl) (fun w1 => ?y15) ?n15; (case y15 => go_simp; try with_reducible rfl); try simp only [Act.put, zL])
 (refine TD.build (v := ?v16) (ps := ?p16) (by simp only [zK]; rfl) rfl (by rfl) rfl ?hx16 (fun w1 => ?y16) ?n16; (case hx16 => (simp only [List.map_toArray, List.map_cons, List.map_nil, Act.eval, zM]; (try rfl))); (case y16 => (rw [hbn]; (try with_reducible rfl))); try simp only [Act.put, zL])
 (refine TD.box (v := ?v17) (by simp only [zK]; rfl) rfl (by rfl) rfl rfl ?hx17 (fun p28 hp28 => ?n17); (case hx17 => simp only [Act.eval, zM]; try rfl); try simp only [Act.put, zL])
 (refine TD.val0 (v := ?v18) (by simp only [zK]; rfl) rfl (by rfl) (fun w1 => ?y18) ?n18; (case y18 => go_simp; try with_reducible rfl); try simp only [Act.put, zL])
 refine TD.nil (fun w4 hr => ?_)
 have kh := hr.mod.at kh (fun h => h)
 have kb := hr.mod.at kb (fun h => h)
 have kp4 := hr.mod.at kp4 (fun h => h)
 have kp28 := hr.box p28 _ (by first | exact Bx.set_same _ _ _ | (simp only [Bx.set_same]; rfl)); dsimp only [Value.cells] at kp28; obtain ⟨gp28, kp28⟩ := kp28
 have m4 := m3.then0 hr.mod
 have s4 := hr.mod.size
 clear hr hbn
 have hbp : p28 ≠ mb := ne_of_obj kp28 kb (by simp)
 have hbh : h ≠ mb := ne_of_obj kh kb (by simp)
 go_upto_region 7 with fail
 have Lkh := lt_size kh
 have Lkp28 := lt_size kp28
 have Lkb := lt_size kb
 refine wp_pass0 (C := fun _ _ _ => False) (κ := fun i => [0, 0, 0, 1, 0, 0, 5].getD i 0) [0, 1, 2, 3, 4, 5, 6] (by kernel_rfl) (by kernel_rfl) (fun _ _ d _ _ h => by cases d <;> first | exact h | exact absurd h (hP _ _ _)) ?_
 (refine TD.val0 (v := ?v19) (by simp only [zK]; rfl) rfl (by rfl) (fun w1 => ?y19) ?n19; (case y19 => go_simp; try with_reducible rfl); try simp only [Act.put, zL])
 (refine TD.val0 (v := ?v20) (by simp only [zK]; rfl) rfl (by rfl) (fun w1 => ?y20) ?n20; (case y20 => go_simp; try with_reducible rfl); try simp only [Act.put, zL])
 (refine TD.val0 (v := ?v21) (by simp only [zK]; rfl) rfl (by rfl) (fun w1 => ?y21) ?n21; (case y21 => go_simp; try with_reducible rfl); try simp only [Act.put, zL])
 (refine TD.load (v := ?v22) (p := ?p22) (Mod.refl _ _) (by simp only [zK]; rfl) rfl (by rfl) rfl ?hx22 (fun wq hSq => ?y22) ?n22; (case hx22 => simp only [Act.eval, zM]; try rfl); (case y22 => (have khq := hSq.at kh (fun h => h); have kp28q := hSq.at kp28 (fun h => h); have kbq := hSq.at kb (fun h => h); go_simp; (try with_reducible rfl))); try simp only [Act.put, zL])
 (refine TD.val0 (v := ?v23) (by simp only [zK]; rfl) rfl (by rfl) (fun w1 => ?y23) ?n23; (case y23 => go_simp; try with_reducible rfl); try simp only [Act.put, zL])
 (refine TD.val0 (v := ?v24) (by simp only [zK]; rfl) rfl (by rfl) (fun w1 => ?y24) ?n24; (case y24 => go_simp; try with_reducible rfl); try simp only [Act.put, zL])
 refine TD.eff (by simp only [zK]; rfl) rfl (fun wE hr => ?_)
 have kh := hr.mod.at0 kh
 have kp28 := hr.mod.at0 kp28
 have kb := hr.mod.at0 kb
 have mE := hr.mod
 obtain ⟨es25, cl25, hrun25, Mkb⟩ := M.update idT Tryz.underlying95 wE kb id p28
 (refine eff_update (X := ?X25) (Y := ?Y25) (Z := ?Z25) (w' := ?w25) (by simp only [zK]; rfl) (by rfl) rfl ?hx25 ?hz25 ?hv25 ?y25 ?n25; (case hx25 => simp only [Act.eval, zM]; try rfl); (case hz25 => simp only [Act.eval, zM]; try rfl); (case hv25 => (simp only [Act.eval, zM]; (try rfl))); (case y25 => exact hrun25))
 (first | refine TE.nil_set kb (fun w5 kb mS => ?_) | refine TE.nil_setCell kb (fun w5 kb mS => ?_))
 (try simp only [Array.setIfInBounds, zL] at kb)
 have kh := mS.at_ne kh (by omega)
 have kp28 := mS.at_ne kp28 (by omega)
 have m5 : Mod (fun i => i = mb) w w5 := ((m4.then0 mE).mono (fun _ _ h => h.elim)).then mS (fun _ _ h => h)
 have hg28 : w.heap.size ≤ p28 := Nat.le_trans m3.size gp28
 clear mE mS
 go_upto_region 8 with fail
 have Lkh := lt_size kh
 have Lkb := lt_size kb
 have Lkp28 := lt_size kp28
 refine wp_pass0 (C := fun _ _ _ => False) (κ := fun i => [0, 0, 0, 1, 0].getD i 0) [0, 1, 2, 3, 4] (by kernel_rfl) (by kernel_rfl) (fun _ _ d _ _ h => by cases d <;> first | exact h | exact absurd h (hP _ _ _)) ?_
 (refine TD.val0 (v := ?v26) (by simp only [zK]; rfl) rfl (by rfl) (fun w1 => ?y26) ?n26; (case y26 => go_simp; try with_reducible rfl); try simp only [Act.put, zL])
 (refine TD.val0 (v := ?v27) (by simp only [zK]; rfl) rfl (by rfl) (fun w1 => ?y27) ?n27; (case y27 => go_simp; try with_reducible rfl); try simp only [Act.put, zL])
 (refine TD.val0 (v := ?v28) (by simp only [zK]; rfl) rfl (by rfl) (fun w1 => ?y28) ?n28; (case y28 => go_simp; try with_reducible rfl); try simp only [Act.put, zL])
 (refine TD.load (v := ?v29) (p := ?p29) (Mod.refl _ _) (by simp only [zK]; rfl) rfl (by rfl) rfl ?hx29 (fun wq hSq => ?y29) ?n29; (case hx29 => simp only [Act.eval, zM]; try rfl); (case y29 => (have khq := hSq.at kh (fun h => h); have kbq := hSq.at kb (fun h => h); have kp28q := hSq.at kp28 (fun h => h); go_simp; (try with_reducible rfl))); try simp only [Act.put, zL])
 (refine TD.val0 (v := ?v30) (by simp only [zK]; rfl) rfl (by rfl) (fun w1 => ?y30) ?n30; (case y30 => go_simp; try with_reducible rfl); try simp only [Act.put, zL])
 refine TD.nil (fun w6 hr => ?_)
 have kh := hr.mod.at kh (fun h => h)
 have kb := hr.mod.at kb (fun h => h)
 have kp28 := hr.mod.at kp28 (fun h => h)
 have m6 := m5.then0 hr.mod
 clear hr
 rw [put_none HN.out] at Mkb
 have nL : ∀ (k : Bool) (s : Nat) (v : Value) (L : List Nat) (o : Nat → Int), Sd w s k v L nd o → p28 ∉ L := fun k s v L o hS hm => by
  obtain ⟨i, hi⟩ := List.mem_iff_getElem?.1 hm
  have := lt_size (hS.nodes i _ hi)
  omega
 have n0 := nL _ _ _ _ _ HH.out.d0
 have n1 := nL _ _ _ _ _ HH.out.d1
 have km6 : ∃ es c, w6.heap[mb]? = some (.map es c) ∧ MapIs idv ptrV es c (m ++ [(id, p28)]) := ⟨_, _, kb, Mkb⟩
 have sm : ∀ (k : Bool) (s : Nat) (v : Value) (L : List Nat) (o : Nat → Int), Sd w s k v L nd o → Sd w6 s k v L nd o := fun k s v L o hS => by
  obtain ⟨es0, c0, kb0, _⟩ := HH.out.km
  refine hS.mod m6 (fun e => ?_) (fun g hg e => ?_) (fun b hb e => ?_)
  ·exact ne_of_obj hS.side kb0 (by simp) e
  ·obtain ⟨cur, kg⟩ := own_block hS.own hg
   exact ne_of_obj kg kb0 (by simp) e
  ·obtain ⟨i, hi⟩ := List.mem_iff_getElem?.1 hb
   exact ne_of_obj (hS.nodes i _ hi) kb0 (by simp) e
 have hup : ∀ b, b ≠ p28 → upd nd p28 ⟨r, id⟩ b = nd b := fun b hb => if_neg hb
 have HP0 : Hid (PuS w h s0 s1 mb v0 v1 L0 L1 (upd nd p28 ⟨r, id⟩) (m ++ [(id, p28)]) p28 0 w6) := Lib.hid (by
  refine ⟨kh, km6, (sm _ _ _ _ _ HH.out.d0).congr (fun b hb => hup b (fun e => n0 (e ▸ hb))) (fun b hb => if_neg (fun e : b = p28 => n0 (e ▸ hb))), (sm _ _ _ _ _ HH.out.d1).congr (fun b hb => hup b (fun e => n1 (e ▸ hb))) (fun b hb => rfl), ?_, m6⟩
  rw [show upd nd p28 ⟨r, id⟩ p28 = ⟨r, id⟩ from if_pos rfl]
  exact kp28)
 have HN0 := Lib.hid n0
 have HN1 := Lib.hid n1
 have HUP := Lib.hid hup
 have HG := Lib.hid hg28
 clear kp28 kb Mkb nL n0 n1 km6 sm hup hg28 kh kp4 HLK
 go_wp2_with fail
 go_loopw [39, 11] (fun s39 _ ws => ∃ j : Nat, j ≤ 2 ∧ s39 = .int .i64 (j : Int) ∧ Hid (PuS w h s0 s1 mb v0 v1 L0 L1 (upd nd p28 ⟨r, id⟩) (m ++ [(id, p28)]) p28 j ws)) (fun s39 _ _ => 2 - (intOf s39).toNat)
 case atStart => exact ⟨0, by omega, rfl, HP0⟩
 case round =>
  obtain ⟨j, hj, rfl, HP⟩ := hrel
  rcases (show j = 0 ∨ j = 1 ∨ j = 2 by omega) with rfl | rfl | rfl
  ·go_wp2_with fail
   go_at_call 71
   obtain ⟨_, _, d0, _, kn, _⟩ := _root_.id HP.out
   have kn2 : wr.heap[p28]? = some (.cells (ndc false (upd nd p28 ⟨r, id⟩ p28) 0 (if p28 = p28 then 0 else (L1.idxOf p28 : Int))) 128 (0, 0)) := by
    rw [if_pos rfl]
    exact kn
   refine (hpush_c d0 kn2 HN0.out (by rw [HH.out.p0.length_eq, List.length_map]; have := HC.out; rw [List.length_map] at this; omega) (HH.out.ok0.congr (fun a ha b hb => by
    unfold lessOf
    rw [HUP.out a (fun e => HN0.out (e ▸ ha)), HUP.out b (fun e => HN0.out (e ▸ hb))]))).mono ?_
   rintro e w7 ⟨rfl, v0', L0', hS, hok, hperm, hm, hv⟩
   have HX := Lib.hid (PuS.one HP.out HH.out.ss HH.out.ap HN1.out (HH.out.p1.trans HH.out.p0.symm) hS hok hperm hm hv)
   clear hS hok hperm hm hv kn kn2 d0
   go_wp2_with fail
   go_roundw
   case rel => exact ⟨1, by omega, by go_num, HX⟩
   case measure => simp [intOf]
  ·go_wp2_with fail
   go_at_call 71
   obtain ⟨kh, km, v0', L0', P1⟩ := _root_.id HP.out
   obtain ⟨i, kn, rfl⟩ := P1.2.2.1
   refine (hpush_c P1.2.1 kn HN1.out (by rw [HH.out.p1.length_eq, List.length_map]; have := HC.out; rw [List.length_map] at this; omega) (HH.out.ok1.congr (fun a ha b hb => by
    unfold lessOf
    rw [HUP.out a (fun e => HN1.out (e ▸ ha)), HUP.out b (fun e => HN1.out (e ▸ hb))]))).mono ?_
   rintro e w7 ⟨rfl, v1', L1', hS, hok, hperm, hm, hv⟩
   have HX := Lib.hid (Pu1.two kh km P1 HH.out.ss HN1.out (HH.out.p1.trans HH.out.p0.symm) (by
     rw [List.map_append]
     exact HH.out.p0.append_right _) (fun i b hb => by
     rcases List.mem_append.1 hb with hb | hb
     ·have : b ∈ L0 := HH.out.p0.mem_iff.2 (List.mem_map.2 ⟨_, hb, rfl⟩)
      rw [HUP.out b (fun e => HN0.out (e ▸ this))]
      exact HH.out.ids i b hb
     ·cases List.mem_singleton.1 hb
      show (upd nd p28 ⟨r, id⟩ p28).id = id
      rw [show upd nd p28 ⟨r, id⟩ p28 = ⟨r, id⟩ from if_pos rfl]) hS hok hperm hm hv)
   clear hS hok hperm hm hv kn kh km P1
   go_wp2_with fail
   go_roundw
   case rel => exact ⟨2, by omega, by go_num, HX⟩
   case measure => simp [intOf]
  ·go_wp2_with fail
   go_ret
   obtain ⟨_, _, v0', L0', v1', L1', hHp, hperm, hm, hv0, hv1⟩ := HP.out
   refine ⟨rfl, fun i => T i ∨ (w.heap.size ≤ i ∧ i < wr.heap.size), ⟨s0, s1, mb, v0', v1', L0', L1', _, _, hHp, ?_, fun i hi => ?_⟩, hm.mono (fun i hlt e => ?_), fun i hi => hi.elim .inl (fun h => .inr h.1), fun i hi => hi.elim (fun h => Nat.lt_of_lt_of_le (HT.out i h) hm.size) (fun h => h.2)⟩
   ·rw [List.map_append]
    congr 1
    ·refine List.map_congr_left (fun p hp => ?_)
     have : p.2 ∈ L0 := HH.out.p0.mem_iff.2 (List.mem_map.2 ⟨_, hp, rfl⟩)
     rw [HUP.out _ (fun e => HN0.out (e ▸ this))]
    ·show [_] = [upd nd p28 ⟨r, id⟩ p28]
     rw [show upd nd p28 ⟨r, id⟩ p28 = ⟨r, id⟩ from if_pos rfl]
   ·rcases hi with e | e | e | e | e | e | e
    ·exact .inl (HO.out i (.inl e))
    ·exact .inl (HO.out i (.inr (.inl e)))
    ·exact .inl (HO.out i (.inr (.inr (.inl e))))
    ·exact .inl (HO.out i (.inr (.inr (.inr (.inl e)))))
    ·rcases hv0 with hv | ⟨g, hv, hg⟩
     ·rw [hv] at e
      exact .inl (HO.out i (.inr (.inr (.inr (.inr (.inl e))))))
     ·have := (hHp.d0.own.lt _ hv).2
      rw [hv] at e
      cases e
      exact .inr ⟨hg, this⟩
    ·rcases hv1 with hv | ⟨g, hv, hg⟩
     ·rw [hv] at e
      exact .inl (HO.out i (.inr (.inr (.inr (.inr (.inr (.inl e)))))))
     ·have := (hHp.d1.own.lt _ hv).2
      rw [hv] at e
      cases e
      exact .inr ⟨hg, this⟩
    ·rcases List.mem_append.1 (hperm.mem_iff.1 e) with h1 | h1
     ·exact .inl (HO.out i (.inr (.inr (.inr (.inr (.inr (.inr h1)))))))
     ·obtain rfl := List.mem_singleton.1 h1
      obtain ⟨j, hj⟩ := List.mem_iff_getElem?.1 e
      exact .inr ⟨HG.out, lt_size (hHp.d0.nodes j _ hj)⟩
   ·have hL1 : ∀ b, b ∈ L1 → b ∈ L0 := fun b hb => HH.out.p0.mem_iff.2 (HH.out.p1.mem_iff.1 hb)
    have := HG.out
    rcases e with e | e | e | e | e | e | e | e
    ·exact HO.out i (.inr (.inr (.inr (.inl e))))
    ·exact HO.out i (.inr (.inl e))
    ·exact HO.out i (.inr (.inr (.inl e)))
    ·omega
    ·exact HO.out i (.inr (.inr (.inr (.inr (.inl e)))))
    ·exact HO.out i (.inr (.inr (.inr (.inr (.inr (.inl e))))))
    ·exact HO.out i (.inr (.inr (.inr (.inr (.inr (.inr e))))))
    ·exact HO.out i (.inr (.inr (.inr (.inr (.inr (.inr (hL1 i e)))))))
end Go.Proofs.YtdeghpmlhcaedaaGreatDoor
namespace Go.Proofs.YtdeghpmlhcaedaaGreatDoor
open Go.RowKit Go.Sort
open Go.ChangeMaps (setBlock)
attribute [local go_sem ↓] wlRk ldRk stRk eqRk eqRk2
attribute [local go_sem] rkc_size ndc_size cell_blk frozen_blk one_int one_bool one_ptr one_slice one_map Value.cells enter_fn eqMap neMap
theorem Hp.at {w : World} {h s0 s1 mb : Nat} {v0 v1 : Value} {L0 L1 : List Nat} {nd : Nat → Nd} {m : List (Int64 × Nat)} (H : Hp w h s0 s1 mb v0 v1 L0 L1 nd m) {id : Int64} (hid : ∃ x ∈ m.map (fun p => nd p.2), x.id = id) : ∃ b, lkp id m = some b ∧ b ∈ L0 ∧ (nd b).id = id := by
 obtain ⟨x, hx, rfl⟩ := hid
 obtain ⟨⟨i, b⟩, hp, rfl⟩ := List.mem_map.1 hx
 obtain ⟨es, c, _, M⟩ := H.km
 have h1 := H.ids i b hp
 refine ⟨b, ?_, H.p0.mem_iff.2 (List.mem_map.2 ⟨_, hp, rfl⟩), rfl⟩
 show lkp (nd b).id m = some b
 rw [h1]
 exact lkp_of_mem M.nodup hp
end Go.Proofs.YtdeghpmlhcaedaaGreatDoor
namespace Go.Proofs.YtdeghpmlhcaedaaGreatDoor
section
variable {P : Program} {ops : Array Oper} {Q : Exit → Act → World → Prop} {T0 : Nat → Prop} {w0 : World} {κ : Nat → Nat} {υ : Nat → List Tmp}
theorem TG.storeO {i : Nat} {r : List Nat} {a : Act} {B : Bx} {K : Land} {o : Oper} {T : TypeId} {x y : Operand} {X Y : Value} (K' : Land) (hcl : Good K') (ho : ops[i]? = some o) (hk : κ i = 6) (hw : Region.wanted o (yielded ops a.tmps) = true)
  (hd : o.dst = none) (hop : o.op = .store T x y) (hx : a.eval x = X) (hy : a.eval y = Y)
  (hr : ∀ T' w, K T' w → ∃ w', (Instr.storeAt T X Y).run P w = .ok () w' ∧ Mod T' w w' ∧ K' T' w')
  (h : Inh T0 w0 B K' → TG P ops Q T0 w0 κ υ r a B K') : TG P ops Q T0 w0 κ υ (i :: r) a B K := by
 refine TG.eff' (fun _ => K') ho hk hw (fun _ => hcl.cl) (fun T2 w k1 k2 k3 k4 => .inr (.inl ?_)) (fun v hI => by rw [hd]; exact h hI)
 obtain ⟨w', h1, h2, h3⟩ := hr T2 w k1
 refine ⟨w', ?_, h2, hcl.gr _ _ _ (fun _ h => .inl h) h3⟩
 subst hx
 subst hy
 simp [execOp, hop, h1]
end
end Go.Proofs.YtdeghpmlhcaedaaGreatDoor
namespace Go.Proofs.YtdeghpmlhcaedaaGreatDoor
open Go.RowKit Go.Sort
open Go.ChangeMaps (setBlock)
attribute [local go_sem ↓] wlRk ldRk stRk eqRk eqRk2
attribute [local go_sem] rkc_size ndc_size cell_blk frozen_blk one_int one_bool one_ptr one_slice one_map Value.cells enter_fn eqMap neMap
theorem results_cell3 {P : Program} {fn : Func} {t u v : Tmp} {T : TypeId} {tmps : Array Value} {p : Addr} {x : Value} {w : World} (h : fn.results = #[.cell t T, .tmp u, .tmp v]) (ht : tmps.getD t undef = .pointer (some p))
  (hl : (Instr.loadAt T (.pointer (some p))).run P w = .ok x w) : (results fn tmps).run P w = .ok (.tuple #[x, tmps.getD u undef, tmps.getD v undef]) w := by
 have hl2 : (loadVar T p).run P w = .ok x w := by simpa [Instr.loadAt, Instr.sureAddr] using hl
 rw [zD] at ht
 simp only [results, h]
 simp [Sem.run_bind, Result.andThen, ht, asAddr, hl2]
def Best (k : Bool) (C : List Nd) (x : Nd) : Prop := x ∈ C ∧ ∀ y ∈ C, flt k y x = false
theorem Hp.best {w : World} {h s0 s1 mb : Nat} {v0 v1 : Value} {L0 L1 : List Nat} {nd : Nat → Nd} {m : List (Int64 × Nat)} (H : Hp w h s0 s1 mb v0 v1 L0 L1 nd m) (k : Bool) {b : Nat} (hb : (if k then L1 else L0)[0]? = some b) : Best k (m.map (fun p => nd p.2)) (nd b) := by
 have hp : (if k then L1 else L0).Perm (m.map Prod.snd) := by
  cases k
  ·exact H.p0
  ·exact H.p1
 have hok : HeapOk (lessOf k nd) (if k then L1 else L0).length (if k then L1 else L0) := by
  cases k
  ·exact H.ok0
  ·exact H.ok1
 generalize (if k then L1 else L0) = L at *
 have e : m.map (fun p => nd p.2) = (m.map Prod.snd).map nd := by rw [List.map_map]; rfl
 rw [e]
 refine ⟨List.mem_map.2 ⟨b, hp.mem_iff.1 (List.mem_of_getElem? hb), rfl⟩, fun y hy => ?_⟩
 obtain ⟨c, hc, rfl⟩ := List.mem_map.1 hy
 obtain ⟨i, hi⟩ := List.mem_iff_getElem?.1 (hp.mem_iff.2 hc)
 exact hok.root (weak_less k nd) (Nat.le_refl _) (fun a => flt_irrefl _ _) hb i c (List.getElem?_eq_some_iff.1 hi).1 hi
set_option maxRecDepth 20000 in
set_option maxHeartbeats 3200000 in
theorem end0_c {h : Nat} {T : Nat → Prop} {w : World} (hA : HAt h [] T w) (k : Int) : Calls Tryz.prog 67 #[ptrV h, .int .i64 k] w fun e w' => e = .returned (.tuple #[.agg (rkc rk0), .int .i64 0, .bool false]) ∧ Mod (fun _ => False) w w' := by
 obtain ⟨s0, s1, mb, v0, v1, L0, L1, nd, m, H, hm, hO⟩ := hA
 obtain rfl : m = [] := List.map_eq_nil_iff.1 hm.symm
 obtain ⟨es, c, kb, M⟩ := H.km
 have kh := H.kh
 have hle : ∀ ty (wq : World), wq.heap[mb]? = some (.map es c) → (Builtin.len_ #[95] ty #[.map (some mb)]).run Tryz.prog wq = .ok (.int .i64 0) wq := fun ty wq hq => M.len Tryz.underlying95 wq hq
 clear H hO M hm
 go_enter Tryz.func67, Tryz.ntmps67
 go_upto_region 0 with fail
 have Lkh := lt_size kh
 have Lkb := lt_size kb
 refine wp_pass0 (C := fun _ _ _ => False) (κ := fun i => [3, 0, 0].getD i 0) [0, 1, 2] (by kernel_rfl) (by kernel_rfl) (fun _ _ d _ _ h => by cases d <;> first | exact h | exact absurd h (hP _ _ _)) ?_
 (refine TD.allocB (by simp only [zK]; rfl) rfl (by rfl) rfl rfl alRk (fun p4 hp4 => ?n1); try simp only [Act.put, zL])
 (refine TD.val0 (v := ?v2) (by simp only [zK]; rfl) rfl (by rfl) (fun w1 => ?y2) ?n2; (case y2 => go_simp; try with_reducible rfl); try simp only [Act.put, zL])
 (refine TD.val0 (v := ?v3) (by simp only [zK]; rfl) rfl (by rfl) (fun w1 => ?y3) ?n3; (case y3 => go_simp; try with_reducible rfl); try simp only [Act.put, zL])
 refine TD.nil (fun w1 hr => ?_)
 have kh := hr.mod.at kh (fun h => h)
 have kb := hr.mod.at kb (fun h => h)
 have kp4 := hr.box p4 _ (by first | exact Bx.set_same _ _ _ | (simp only [Bx.set_same]; rfl)); dsimp only [Value.cells] at kp4; obtain ⟨gp4, kp4⟩ := kp4
 have m1 := hr.mod
 clear hr
 have hle1 := fun ty => hle ty w1 kb
 go_wp2_with fail
 go_at_call 68
 refine (there_c kh).mono ?_
 rintro e w2 ⟨rfl, rfl⟩
 replace kp4 : w2.heap[p4]? = some (.cells #[.int .u64 0, .int .u64 0] 109 (0, 0)) := kp4
 go_upto_region 2 with fail
 have Lkp4 := lt_size kp4
 refine wp_pass0 (C := fun _ _ _ => False) (κ := fun i => [1, 5, 0, 0].getD i 0) [0, 1, 2, 3] (by kernel_rfl) (by kernel_rfl) (fun _ _ d _ _ h => by cases d <;> first | exact h | exact absurd h (hP _ _ _)) ?_
 (refine TD.load (v := ?v4) (p := ?p4) (Mod.refl _ _) (by simp only [zK]; rfl) rfl (by rfl) rfl ?hx4 (fun wq hSq => ?y4) ?n4; (case hx4 => simp only [Act.eval, zM]; try rfl); (case y4 => (have kp4q := hSq.at kp4 (fun h => h); go_simp; (try with_reducible rfl))); try simp only [Act.put, zL])
 refine TD.eff (by simp only [zK]; rfl) rfl (fun w3 hr => ?_)
 have kp4 := hr.mod.at kp4 (fun h => h)
 have m3 := m1.then0 hr.mod
 clear hr
 (refine eff_store (X := ?X6) (Y := ?Y6) (w' := ?w6) (by simp only [zK]; rfl) (by rfl) rfl ?hx6 ?hz6 ?y6 ?n6; (case hx6 => simp only [Act.eval, zM]; try rfl); (case hz6 => simp only [Act.eval, zM]; try rfl); (case y6 => go_simp; try with_reducible rfl))
 (first | refine TE.mid_set kp4 (fun wn kp4 mS => ?_) | refine TE.mid_setCell kp4 (fun wn kp4 mS => ?_))
 (try simp only [Array.setIfInBounds, zL] at kp4)
 have m4 := m3.thenB mS (.inl gp4)
 clear mS
 (refine TE.val0 (v := ?v7) (by simp only [zK]; rfl) (by rfl) (fun w1 => ?y7) ?n7; (case y7 => go_simp; try with_reducible rfl); try simp only [Act.put, zL])
 (refine TE.val0 (v := ?v8) (by simp only [zK]; rfl) (by rfl) (fun w1 => ?y8) ?n8; (case y8 => go_simp; try with_reducible rfl); try simp only [Act.put, zL])
 refine TE.nil ?_
 go_wp2_with fail
 exact bodyPost_ret (results_cell3 (x := .agg (rkc rk0)) rfl rfl (by rw [ldRk]; simp [kp4, rkc, rk0])) rfl ⟨rfl, m4⟩
set_option maxRecDepth 20000 in
set_option maxHeartbeats 3200000 in
theorem end1_c {h : Nat} {C : List Nd} {T : Nat → Prop} {w : World} (hA : HAt h C T w) (hC : C ≠ []) (k : Bool) : Calls Tryz.prog 67 #[ptrV h, .int .i64 (kn k : Int)] w fun e w' => ∃ x, Best k C x ∧ e = .returned (.tuple #[.agg (rkc x.r), .int .i64 x.id.toInt, .bool true]) ∧ Mod (fun _ => False) w w' := by
 obtain ⟨s0, s1, mb, v0, v1, L0, L1, nd, m, H, rfl, hO⟩ := hA
 obtain ⟨es, c, kb, M⟩ := H.km
 have kh := H.kh
 have hle : ∀ ty (wq : World), wq.heap[mb]? = some (.map es c) → (Builtin.len_ #[95] ty #[.map (some mb)]).run Tryz.prog wq = .ok (.int .i64 m.length) wq := fun ty wq hq => M.len Tryz.underlying95 wq hq
 have hm0 : m.length ≠ 0 := fun e => hC (by rw [List.eq_nil_of_length_eq_zero e]; rfl)
 have hz : ((m.length : Int) == 0) = false := by
  rw [beq_eq_false_iff_ne]
  omega
 obtain ⟨b, hb⟩ : ∃ b, (if k then L1 else L0)[0]? = some b := by
  cases k
  ·exact ⟨_, List.getElem?_eq_getElem (show 0 < L0.length by rw [H.p0.length_eq, List.length_map]; omega)⟩
  ·exact ⟨_, List.getElem?_eq_getElem (show 0 < L1.length by rw [H.p1.length_eq, List.length_map]; omega)⟩
 have HB := Lib.hid (H.best k hb)
 cases k
 ·obtain ⟨g, cap, cur, rfl, _, kg, hcap, hcs, hcur, _⟩ := own_row H.d0.own (fun e => by simp only [if_true, if_false, Bool.false_eq_true] at hb; rw [e] at hb; cases hb)
  have c0 := hcur 0 b hb
  have hl0 := (List.getElem?_eq_some_iff.1 hb).1
  have ks := H.d0.side
  have kn0 := H.d0.nodes 0 b hb
  simp only [if_true, if_false, Bool.false_eq_true] at hl0
  simp only [ndc, if_true, if_false, Bool.false_eq_true] at kn0
  simp only [sdc, kn, if_true, if_false, Bool.false_eq_true] at ks
  have HKB := Lib.hid kn0
  clear H hO M hC hm0 hcur hb
  show Calls Tryz.prog _ #[ptrV h, .int .i64 0] w _
  go_enter Tryz.func67, Tryz.ntmps67
  go_upto_region 0 with fail
  have Lkh := lt_size kh
  have Lkb := lt_size kb
  have Lks := lt_size ks
  have Lkg := lt_size kg
  have Lkn0 := lt_size kn0
  refine wp_pass0 (C := fun _ _ _ => False) (κ := fun i => [3, 0, 0].getD i 0) [0, 1, 2] (by kernel_rfl) (by kernel_rfl) (fun _ _ d _ _ h => by cases d <;> first | exact h | exact absurd h (hP _ _ _)) ?_
  (refine TD.allocB (by simp only [zK]; rfl) rfl (by rfl) rfl rfl alRk (fun p4 hp4 => ?n9); try simp only [Act.put, zL])
  (refine TD.val0 (v := ?v10) (by simp only [zK]; rfl) rfl (by rfl) (fun w1 => ?y10) ?n10; (case y10 => go_simp; try with_reducible rfl); try simp only [Act.put, zL])
  (refine TD.val0 (v := ?v11) (by simp only [zK]; rfl) rfl (by rfl) (fun w1 => ?y11) ?n11; (case y11 => go_simp; try with_reducible rfl); try simp only [Act.put, zL])
  refine TD.nil (fun w1 hr => ?_)
  have kh := hr.mod.at kh (fun h => h)
  have kb := hr.mod.at kb (fun h => h)
  have ks := hr.mod.at ks (fun h => h)
  have kg := hr.mod.at kg (fun h => h)
  have kn0 := hr.mod.at kn0 (fun h => h)
  have kp4 := hr.box p4 _ (by first | exact Bx.set_same _ _ _ | (simp only [Bx.set_same]; rfl)); dsimp only [Value.cells] at kp4; obtain ⟨gp4, kp4⟩ := kp4
  have m1 := hr.mod
  clear hr
  have hle1 := fun ty => hle ty w1 kb
  clear hle
  go_wp2_with fail
  go_at_call 68
  refine (there_c kh).mono ?_
  rintro e w2 ⟨rfl, rfl⟩
  replace kp4 : w2.heap[p4]? = some (.cells #[.int .u64 0, .int .u64 0] 109 (0, 0)) := kp4
  go_upto_region 3 with fail
  have Lkh := lt_size kh
  have Lks := lt_size ks
  have Lkg := lt_size kg
  have Lkn0 := lt_size kn0
  have Lkp4 := lt_size kp4
  refine wp_pass0 (C := fun _ _ _ => False) (κ := fun i => [0, 0, 0, 0, 0, 1, 0, 0, 1, 0, 1, 0].getD i 0) [0, 1, 2, 3, 4, 5, 6, 7, 8, 9, 10, 11] (by kernel_rfl) (by kernel_rfl) (fun _ _ d _ _ h => by cases d <;> first | exact h | exact absurd h (hP _ _ _)) ?_
  (refine TD.val0 (v := ?v12) (by simp only [zK]; rfl) rfl (by rfl) (fun w1 => ?y12) ?n12; (case y12 => go_simp; try with_reducible rfl); try simp only [Act.put, zL])
  (refine TD.val0 (v := ?v13) (by simp only [zK]; rfl) rfl (by rfl) (fun w1 => ?y13) ?n13; (case y13 => go_simp; try with_reducible rfl); try simp only [Act.put, zL])
  (refine TD.val0 (v := ?v14) (by simp only [zK]; rfl) rfl (by rfl) (fun w1 => ?y14) ?n14; (case y14 => go_simp; try with_reducible rfl); try simp only [Act.put, zL])
  (refine TD.val0 (v := ?v15) (by simp only [zK]; rfl) rfl (by rfl) (fun w1 => ?y15) ?n15; (case y15 => go_simp; try with_reducible rfl); try simp only [Act.put, zL])
  (refine TD.val0 (v := ?v16) (by simp only [zK]; rfl) rfl (by rfl) (fun w1 => ?y16) ?n16; (case y16 => go_simp; try with_reducible rfl); try simp only [Act.put, zL])
  (refine TD.load (v := ?v17) (p := ?p17) (Mod.refl _ _) (by simp only [zK]; rfl) rfl (by rfl) rfl ?hx17 (fun wq hSq => ?y17) ?n17; (case hx17 => simp only [Act.eval, zM]; try rfl); (case y17 => (have khq := hSq.at kh (fun h => h); have ksq := hSq.at ks (fun h => h); have kgq := hSq.at kg (fun h => h); have kn0q := hSq.at kn0 (fun h => h); have kp4q := hSq.at kp4 (fun h => h); go_simp; (try with_reducible rfl))); try simp only [Act.put, zL])
  (refine TD.val0 (v := ?v18) (by simp only [zK]; rfl) rfl (by rfl) (fun w1 => ?y18) ?n18; (case y18 => go_simp; try with_reducible rfl); try simp only [Act.put, zL])
  (refine TD.val0 (v := ?v19) (by simp only [zK]; rfl) rfl (by rfl) (fun w1 => ?y19) ?n19; (case y19 => go_simp; try with_reducible rfl); try simp only [Act.put, zL])
  (refine TD.load (v := ?v20) (p := ?p20) (Mod.refl _ _) (by simp only [zK]; rfl) rfl (by rfl) rfl ?hx20 (fun wq hSq => ?y20) ?n20; (case hx20 => simp only [Act.eval, zM]; try rfl); (case y20 => (have khq := hSq.at kh (fun h => h); have ksq := hSq.at ks (fun h => h); have kgq := hSq.at kg (fun h => h); have kn0q := hSq.at kn0 (fun h => h); have kp4q := hSq.at kp4 (fun h => h); go_simp; (try with_reducible rfl))); try simp only [Act.put, zL])
  (refine TD.val0 (v := ?v21) (by simp only [zK]; rfl) rfl (by rfl) (fun w1 => ?y21) ?n21; (case y21 => go_simp; try with_reducible rfl); try simp only [Act.put, zL])
  (refine TD.load (v := ?v22) (p := ?p22) (Mod.refl _ _) (by simp only [zK]; rfl) rfl (by rfl) rfl ?hx22 (fun wq hSq => ?y22) ?n22; (case hx22 => simp only [Act.eval, zM]; try rfl); (case y22 => (have khq := hSq.at kh (fun h => h); have ksq := hSq.at ks (fun h => h); have kgq := hSq.at kg (fun h => h); have kn0q := hSq.at kn0 (fun h => h); have kp4q := hSq.at kp4 (fun h => h); go_simp; (try with_reducible rfl))); try simp only [Act.put, zL])
  (refine TD.val0 (v := ?v23) (by simp only [zK]; rfl) rfl (by rfl) (fun w1 => ?y23) ?n23; (case y23 => go_simp; try with_reducible rfl); try simp only [Act.put, zL])
  refine TD.nil (fun w3 hr => ?_)
  have kh := hr.mod.at kh (fun h => h)
  have ks := hr.mod.at ks (fun h => h)
  have kg := hr.mod.at kg (fun h => h)
  have kn0 := hr.mod.at kn0 (fun h => h)
  have kp4 := hr.mod.at kp4 (fun h => h)
  have m3 := m1.then0 hr.mod
  clear hr hle1
  go_upto_region 4 with fail
  have hbp : b ≠ p4 := fun e => by have := lt_size HKB.out; omega
  have Lkn0 := lt_size kn0
  refine wp_gpass (T0 := fun i => i = p4) (K := fun T w => T p4 ∧ w.heap[p4]? = some (.cells #[.int .u64 0, .int .u64 0] 109 (0, 0))) (κ := fun i => [0, 0, 0, 0, 0, 0, 0, 0, 6, 0, 0].getD i 0) (υ := fun i => [[], [], [], [], [], [], [], [], [], [], []].getD i []) [0, 1, 2, 3, 4, 5, 6, 7, 8, 9, 10] (by kernel_rfl) (by kernel_rfl) (Good.at p4 (.cells #[.int .u64 0, .int .u64 0] 109 (0, 0))).cl (⟨rfl, kp4⟩) (fun i hi => by subst hi; exact lt_size kp4) ?_
  have gK := Good.at p4 (.cells #[.int .u64 0, .int .u64 0] 109 (0, 0))
  (refine TG.v0 (v := ?v24) (by simp only [zK]; rfl) rfl (by rfl) (fun w1 => ?y24) ?n24; (case y24 => go_simp; try with_reducible rfl); try simp only [Act.put, zL])
  (refine TG.v0 (v := ?v25) (by simp only [zK]; rfl) rfl (by rfl) (fun w1 => ?y25) ?n25; (case y25 => go_simp; try with_reducible rfl); try simp only [Act.put, zL])
  (refine TG.v0 (v := ?v26) (by simp only [zK]; rfl) rfl (by rfl) (fun w1 => ?y26) ?n26; (case y26 => go_simp; try with_reducible rfl); try simp only [Act.put, zL])
  (refine TG.load (v := ?v27) (p := ?p27) (by simp only [zK]; rfl) rfl (by rfl) rfl ?hx27 (fun wq hSq => ?y27) ?n27; (case hx27 => simp only [Act.eval, zM]; try rfl); (case y27 => (have kn0q := hSq.at kn0 (by intro hT; first | exact hT | exact absurd hT (by assumption) | omega | (simp only at hT; omega)); go_simp; (try with_reducible rfl))); try simp only [Act.put, zL])
  (refine TG.v0 (v := ?v28) (by simp only [zK]; rfl) rfl (by rfl) (fun w1 => ?y28) ?n28; (case y28 => go_simp; try with_reducible rfl); try simp only [Act.put, zL])
  (refine TG.v0 (v := ?v29) (by simp only [zK]; rfl) rfl (by rfl) (fun w1 => ?y29) ?n29; (case y29 => go_simp; try with_reducible rfl); try simp only [Act.put, zL])
  (refine TG.v0 (v := ?v30) (by simp only [zK]; rfl) rfl (by rfl) (fun w1 => ?y30) ?n30; (case y30 => go_simp; try with_reducible rfl); try simp only [Act.put, zL])
  (refine TG.load (v := ?v31) (p := ?p31) (by simp only [zK]; rfl) rfl (by rfl) rfl ?hx31 (fun wq hSq => ?y31) ?n31; (case hx31 => simp only [Act.eval, zM]; try rfl); (case y31 => (have kn0q := hSq.at kn0 (by intro hT; first | exact hT | exact absurd hT (by assumption) | omega | (simp only at hT; omega)); go_simp; (try with_reducible rfl))); try simp only [Act.put, zL])
  (refine TG.storeO (X := ?X32) (Y := ?Y32) (fun T w => T p4 ∧ w.heap[p4]? = some (.cells (rkc (nd b).r) 109 (0, 0))) (Good.at p4 (.cells (rkc (nd b).r) 109 (0, 0))) (by simp only [zK]; rfl) rfl (by rfl) rfl rfl ?hx32 ?hz32 (fun T wq kq => ?y32) (fun _ => ?n32); (case hx32 => simp only [Act.eval, zM]; try rfl); (case hz32 => simp only [Act.eval, zM]; try rfl); (case y32 => (obtain ⟨k1, k2⟩ := kq; refine ⟨setBlock wq p4 (.cells (rkc (nd b).r) 109 (0, 0)), ?_, (mod_set wq p4 _).mono (fun i _ e => by rw [e]; exact k1), k1, heap_setBlock wq _ (lt_size k2)⟩; exact run_store_box k2 (by kernel_rfl) rfl (by simp [Value.oneCell']))); replace gK := (Good.at p4 (.cells (rkc (nd b).r) 109 (0, 0))); try simp only [Act.put, zL])
  (refine TG.v0 (v := ?v33) (by simp only [zK]; rfl) rfl (by rfl) (fun w1 => ?y33) ?n33; (case y33 => go_simp; try with_reducible rfl); try simp only [Act.put, zL])
  (refine TG.v0 (v := ?v34) (by simp only [zK]; rfl) rfl (by rfl) (fun w1 => ?y34) ?n34; (case y34 => go_simp; try with_reducible rfl); try simp only [Act.put, zL])
  refine TG.nil (fun w4 ⟨TR, hr⟩ => ?_)
  have kn0 := hr.mod.at kn0 (by intro hT; first | exact hT | exact absurd hT (by assumption) | omega | (simp only at hT; omega))
  clear gK
  obtain ⟨_, kp4⟩ := hr.k
  have m5 : Mod (fun _ => False) w w4 := m3.then hr.mod (fun i hi e => by subst e; have := gp4; omega)
  go_wp2_with fail
  exact bodyPost_ret (results_cell3 (x := .agg (rkc (nd b).r)) rfl rfl (by rw [ldRk]; simp [kp4, rkc])) rfl ⟨nd b, HB.out, rfl, m5⟩
 ·obtain ⟨g, cap, cur, rfl, _, kg, hcap, hcs, hcur, _⟩ := own_row H.d1.own (fun e => by simp only [if_true, if_false, Bool.false_eq_true] at hb; rw [e] at hb; cases hb)
  have c0 := hcur 0 b hb
  have hl0 := (List.getElem?_eq_some_iff.1 hb).1
  have ks := H.d1.side
  have kn0 := H.d1.nodes 0 b hb
  simp only [if_true, if_false, Bool.false_eq_true] at hl0
  simp only [ndc, if_true, if_false, Bool.false_eq_true] at kn0
  simp only [sdc, kn, if_true, if_false, Bool.false_eq_true] at ks
  have HKB := Lib.hid kn0
  clear H hO M hC hm0 hcur hb
  show Calls Tryz.prog _ #[ptrV h, .int .i64 1] w _
  go_enter Tryz.func67, Tryz.ntmps67
  go_upto_region 0 with fail
  have Lkh := lt_size kh
  have Lkb := lt_size kb
  have Lks := lt_size ks
  have Lkg := lt_size kg
  have Lkn0 := lt_size kn0
  refine wp_pass0 (C := fun _ _ _ => False) (κ := fun i => [3, 0, 0].getD i 0) [0, 1, 2] (by kernel_rfl) (by kernel_rfl) (fun _ _ d _ _ h => by cases d <;> first | exact h | exact absurd h (hP _ _ _)) ?_
  (refine TD.allocB (by simp only [zK]; rfl) rfl (by rfl) rfl rfl alRk (fun p4 hp4 => ?n35); try simp only [Act.put, zL])
  (refine TD.val0 (v := ?v36) (by simp only [zK]; rfl) rfl (by rfl) (fun w1 => ?y36) ?n36; (case y36 => go_simp; try with_reducible rfl); try simp only [Act.put, zL])
  (refine TD.val0 (v := ?v37) (by simp only [zK]; rfl) rfl (by rfl) (fun w1 => ?y37) ?n37; (case y37 => go_simp; try with_reducible rfl); try simp only [Act.put, zL])
  refine TD.nil (fun w1 hr => ?_)
  have kh := hr.mod.at kh (fun h => h)
  have kb := hr.mod.at kb (fun h => h)
  have ks := hr.mod.at ks (fun h => h)
  have kg := hr.mod.at kg (fun h => h)
  have kn0 := hr.mod.at kn0 (fun h => h)
  have kp4 := hr.box p4 _ (by first | exact Bx.set_same _ _ _ | (simp only [Bx.set_same]; rfl)); dsimp only [Value.cells] at kp4; obtain ⟨gp4, kp4⟩ := kp4
  have m1 := hr.mod
  clear hr
  have hle1 := fun ty => hle ty w1 kb
  clear hle
  go_wp2_with fail
  go_at_call 68
  refine (there_c kh).mono ?_
  rintro e w2 ⟨rfl, rfl⟩
  replace kp4 : w2.heap[p4]? = some (.cells #[.int .u64 0, .int .u64 0] 109 (0, 0)) := kp4
  go_upto_region 3 with fail
  have Lkh := lt_size kh
  have Lks := lt_size ks
  have Lkg := lt_size kg
  have Lkn0 := lt_size kn0
  have Lkp4 := lt_size kp4
  refine wp_pass0 (C := fun _ _ _ => False) (κ := fun i => [0, 0, 0, 0, 0, 1, 0, 0, 1, 0, 1, 0].getD i 0) [0, 1, 2, 3, 4, 5, 6, 7, 8, 9, 10, 11] (by kernel_rfl) (by kernel_rfl) (fun _ _ d _ _ h => by cases d <;> first | exact h | exact absurd h (hP _ _ _)) ?_
  (refine TD.val0 (v := ?v38) (by simp only [zK]; rfl) rfl (by rfl) (fun w1 => ?y38) ?n38; (case y38 => go_simp; try with_reducible rfl); try simp only [Act.put, zL])
  (refine TD.val0 (v := ?v39) (by simp only [zK]; rfl) rfl (by rfl) (fun w1 => ?y39) ?n39; (case y39 => go_simp; try with_reducible rfl); try simp only [Act.put, zL])
  (refine TD.val0 (v := ?v40) (by simp only [zK]; rfl) rfl (by rfl) (fun w1 => ?y40) ?n40; (case y40 => go_simp; try with_reducible rfl); try simp only [Act.put, zL])
  (refine TD.val0 (v := ?v41) (by simp only [zK]; rfl) rfl (by rfl) (fun w1 => ?y41) ?n41; (case y41 => go_simp; try with_reducible rfl); try simp only [Act.put, zL])
  (refine TD.val0 (v := ?v42) (by simp only [zK]; rfl) rfl (by rfl) (fun w1 => ?y42) ?n42; (case y42 => go_simp; try with_reducible rfl); try simp only [Act.put, zL])
  (refine TD.load (v := ?v43) (p := ?p43) (Mod.refl _ _) (by simp only [zK]; rfl) rfl (by rfl) rfl ?hx43 (fun wq hSq => ?y43) ?n43; (case hx43 => simp only [Act.eval, zM]; try rfl); (case y43 => (have khq := hSq.at kh (fun h => h); have ksq := hSq.at ks (fun h => h); have kgq := hSq.at kg (fun h => h); have kn0q := hSq.at kn0 (fun h => h); have kp4q := hSq.at kp4 (fun h => h); go_simp; (try with_reducible rfl))); try simp only [Act.put, zL])
  (refine TD.val0 (v := ?v44) (by simp only [zK]; rfl) rfl (by rfl) (fun w1 => ?y44) ?n44; (case y44 => go_simp; try with_reducible rfl); try simp only [Act.put, zL])
  (refine TD.val0 (v := ?v45) (by simp only [zK]; rfl) rfl (by rfl) (fun w1 => ?y45) ?n45; (case y45 => go_simp; try with_reducible rfl); try simp only [Act.put, zL])
  (refine TD.load (v := ?v46) (p := ?p46) (Mod.refl _ _) (by simp only [zK]; rfl) rfl (by rfl) rfl ?hx46 (fun wq hSq => ?y46) ?n46; (case hx46 => simp only [Act.eval, zM]; try rfl); (case y46 => (have khq := hSq.at kh (fun h => h); have ksq := hSq.at ks (fun h => h); have kgq := hSq.at kg (fun h => h); have kn0q := hSq.at kn0 (fun h => h); have kp4q := hSq.at kp4 (fun h => h); go_simp; (try with_reducible rfl))); try simp only [Act.put, zL])
  (refine TD.val0 (v := ?v47) (by simp only [zK]; rfl) rfl (by rfl) (fun w1 => ?y47) ?n47; (case y47 => go_simp; try with_reducible rfl); try simp only [Act.put, zL])
  (refine TD.load (v := ?v48) (p := ?p48) (Mod.refl _ _) (by simp only [zK]; rfl) rfl (by rfl) rfl ?hx48 (fun wq hSq => ?y48) ?n48; (case hx48 => simp only [Act.eval, zM]; try rfl); (case y48 => (have khq := hSq.at kh (fun h => h); have ksq := hSq.at ks (fun h => h); have kgq := hSq.at kg (fun h => h); have kn0q := hSq.at kn0 (fun h => h); have kp4q := hSq.at kp4 (fun h => h); go_simp; (try with_reducible rfl))); try simp only [Act.put, zL])
  (refine TD.val0 (v := ?v49) (by simp only [zK]; rfl) rfl (by rfl) (fun w1 => ?y49) ?n49; (case y49 => go_simp; try with_reducible rfl); try simp only [Act.put, zL])
  refine TD.nil (fun w3 hr => ?_)
  have kh := hr.mod.at kh (fun h => h)
  have ks := hr.mod.at ks (fun h => h)
  have kg := hr.mod.at kg (fun h => h)
  have kn0 := hr.mod.at kn0 (fun h => h)
  have kp4 := hr.mod.at kp4 (fun h => h)
  have m3 := m1.then0 hr.mod
  clear hr hle1
  go_upto_region 4 with fail
  have hbp : b ≠ p4 := fun e => by have := lt_size HKB.out; omega
  have Lkn0 := lt_size kn0
  refine wp_gpass (T0 := fun i => i = p4) (K := fun T w => T p4 ∧ w.heap[p4]? = some (.cells #[.int .u64 0, .int .u64 0] 109 (0, 0))) (κ := fun i => [0, 0, 0, 0, 0, 0, 0, 0, 6, 0, 0].getD i 0) (υ := fun i => [[], [], [], [], [], [], [], [], [], [], []].getD i []) [0, 1, 2, 3, 4, 5, 6, 7, 8, 9, 10] (by kernel_rfl) (by kernel_rfl) (Good.at p4 (.cells #[.int .u64 0, .int .u64 0] 109 (0, 0))).cl (⟨rfl, kp4⟩) (fun i hi => by subst hi; exact lt_size kp4) ?_
  have gK := Good.at p4 (.cells #[.int .u64 0, .int .u64 0] 109 (0, 0))
  (refine TG.v0 (v := ?v50) (by simp only [zK]; rfl) rfl (by rfl) (fun w1 => ?y50) ?n50; (case y50 => go_simp; try with_reducible rfl); try simp only [Act.put, zL])
  (refine TG.v0 (v := ?v51) (by simp only [zK]; rfl) rfl (by rfl) (fun w1 => ?y51) ?n51; (case y51 => go_simp; try with_reducible rfl); try simp only [Act.put, zL])
  (refine TG.v0 (v := ?v52) (by simp only [zK]; rfl) rfl (by rfl) (fun w1 => ?y52) ?n52; (case y52 => go_simp; try with_reducible rfl); try simp only [Act.put, zL])
  (refine TG.load (v := ?v53) (p := ?p53) (by simp only [zK]; rfl) rfl (by rfl) rfl ?hx53 (fun wq hSq => ?y53) ?n53; (case hx53 => simp only [Act.eval, zM]; try rfl); (case y53 => (have kn0q := hSq.at kn0 (by intro hT; first | exact hT | exact absurd hT (by assumption) | omega | (simp only at hT; omega)); go_simp; (try with_reducible rfl))); try simp only [Act.put, zL])
  (refine TG.v0 (v := ?v54) (by simp only [zK]; rfl) rfl (by rfl) (fun w1 => ?y54) ?n54; (case y54 => go_simp; try with_reducible rfl); try simp only [Act.put, zL])
  (refine TG.v0 (v := ?v55) (by simp only [zK]; rfl) rfl (by rfl) (fun w1 => ?y55) ?n55; (case y55 => go_simp; try with_reducible rfl); try simp only [Act.put, zL])
  (refine TG.v0 (v := ?v56) (by simp only [zK]; rfl) rfl (by rfl) (fun w1 => ?y56) ?n56; (case y56 => go_simp; try with_reducible rfl); try simp only [Act.put, zL])
  (refine TG.load (v := ?v57) (p := ?p57) (by simp only [zK]; rfl) rfl (by rfl) rfl ?hx57 (fun wq hSq => ?y57) ?n57; (case hx57 => simp only [Act.eval, zM]; try rfl); (case y57 => (have kn0q := hSq.at kn0 (by intro hT; first | exact hT | exact absurd hT (by assumption) | omega | (simp only at hT; omega)); go_simp; (try with_reducible rfl))); try simp only [Act.put, zL])
  (refine TG.storeO (X := ?X58) (Y := ?Y58) (fun T w => T p4 ∧ w.heap[p4]? = some (.cells (rkc (nd b).r) 109 (0, 0))) (Good.at p4 (.cells (rkc (nd b).r) 109 (0, 0))) (by simp only [zK]; rfl) rfl (by rfl) rfl rfl ?hx58 ?hz58 (fun T wq kq => ?y58) (fun _ => ?n58); (case hx58 => simp only [Act.eval, zM]; try rfl); (case hz58 => simp only [Act.eval, zM]; try rfl); (case y58 => (obtain ⟨k1, k2⟩ := kq; refine ⟨setBlock wq p4 (.cells (rkc (nd b).r) 109 (0, 0)), ?_, (mod_set wq p4 _).mono (fun i _ e => by rw [e]; exact k1), k1, heap_setBlock wq _ (lt_size k2)⟩; exact run_store_box k2 (by kernel_rfl) rfl (by simp [Value.oneCell']))); replace gK := (Good.at p4 (.cells (rkc (nd b).r) 109 (0, 0))); try simp only [Act.put, zL])
  (refine TG.v0 (v := ?v59) (by simp only [zK]; rfl) rfl (by rfl) (fun w1 => ?y59) ?n59; (case y59 => go_simp; try with_reducible rfl); try simp only [Act.put, zL])
  (refine TG.v0 (v := ?v60) (by simp only [zK]; rfl) rfl (by rfl) (fun w1 => ?y60) ?n60; (case y60 => go_simp; try with_reducible rfl); try simp only [Act.put, zL])
  refine TG.nil (fun w4 ⟨TR, hr⟩ => ?_)
  have kn0 := hr.mod.at kn0 (by intro hT; first | exact hT | exact absurd hT (by assumption) | omega | (simp only at hT; omega))
  clear gK
  obtain ⟨_, kp4⟩ := hr.k
  have m5 : Mod (fun _ => False) w w4 := m3.then hr.mod (fun i hi e => by subst e; have := gp4; omega)
  go_wp2_with fail
  exact bodyPost_ret (results_cell3 (x := .agg (rkc (nd b).r)) rfl rfl (by rw [ldRk]; simp [kp4, rkc])) rfl ⟨nd b, HB.out, rfl, m5⟩
end Go.Proofs.YtdeghpmlhcaedaaGreatDoor
namespace Go.Proofs.YtdeghpmlhcaedaaGreatDoor
open Go.RowKit Go.Sort
open Go.ChangeMaps (setBlock)
attribute [local go_sem ↓] wlRk ldRk stRk eqRk eqRk2
attribute [local go_sem] rkc_size ndc_size cell_blk frozen_blk one_int one_bool one_ptr one_slice one_map Value.cells enter_fn eqMap neMap
theorem rkc_all1 (r : Rk) : (rkc r).all (·.oneCell') 0 2 = true := all_of (rkc_size r) (by simp [rkc, Value.oneCell'])
attribute [local go_sem] rkc_all1
set_option maxRecDepth 20000 in
set_option maxHeartbeats 3200000 in
theorem top_c {h : Nat} {C : List Nd} {T : Nat → Prop} {w : World} (hA : HAt h C T w) (hC : C ≠ []) : Calls Tryz.prog 44 #[ptrV h] w fun e w' => ∃ x, Best false C x ∧ e = .returned (.tuple #[.agg (rkc x.r), .int .i64 x.id.toInt, .bool true]) ∧ Mod (fun _ => False) w w' := by
 have HA := Lib.hid hA
 clear hA
 go_enter Tryz.func44, Tryz.ntmps44
 go_upto_region 0 with fail
 refine wp_pass0 (C := fun _ _ _ => False) (κ := fun i => [3, 0, 0].getD i 0) [0, 1, 2] (by kernel_rfl) (by kernel_rfl) (fun _ _ d _ _ h => by cases d <;> first | exact h | exact absurd h (hP _ _ _)) ?_
 (refine TD.allocB (by simp only [zK]; rfl) rfl (by rfl) rfl rfl alRk (fun p2 hp2 => ?n1); try simp only [Act.put, zL])
 (refine TD.val0 (v := ?v2) (by simp only [zK]; rfl) rfl (by rfl) (fun w1 => ?y2) ?n2; (case y2 => go_simp; try with_reducible rfl); try simp only [Act.put, zL])
 (refine TD.val0 (v := ?v3) (by simp only [zK]; rfl) rfl (by rfl) (fun w1 => ?y3) ?n3; (case y3 => go_simp; try with_reducible rfl); try simp only [Act.put, zL])
 refine TD.nil (fun w1 hr => ?_)
 have kp2 := hr.box p2 _ (by first | exact Bx.set_same _ _ _ | (simp only [Bx.set_same]; rfl)); dsimp only [Value.cells] at kp2; obtain ⟨gp2, kp2⟩ := kp2
 have m1 := hr.mod
 clear hr
 have hA1 := (HAt.good h C).cl T w w1 HA.out (m1.mono (fun _ _ h => h.elim))
 have hcall : ∀ wq, Mod (fun _ => False) w1 wq → Calls Tryz.prog 67 #[ptrV h, .int .i64 0] wq fun e w' => ∃ x, Best false C x ∧ e = .returned (.tuple #[.agg (rkc x.r), .int .i64 x.id.toInt, .bool true]) ∧ Mod (fun _ => False) wq w' := fun wq hq => end1_c ((HAt.good h C).cl T w1 wq hA1 (hq.mono (fun _ _ h => h.elim))) hC false
 have HC := Lib.hid hcall
 clear hA1 hcall
 replace kp2 : w1.heap[p2]? = some (.cells #[.int .u64 0, .int .u64 0] 109 (0, 0)) := kp2
 go_upto_region 1 with fail
 have Lkp2 := lt_size kp2
 refine wp_pass0 (C := fun _ _ v => ∃ x, Best false C x ∧ v = .tuple #[.agg (rkc x.r), .int .i64 x.id.toInt, .bool true]) (κ := fun i => [0, 2, 0, 0, 0, 5, 0, 0].getD i 0) [0, 1, 2, 3, 4, 5, 6, 7] (by kernel_rfl) (by kernel_rfl) (fun _ _ d _ _ h => by cases d <;> first | exact h | exact absurd h (hP _ _ _)) ?_
 (refine TD.val0 (v := ?v4) (by simp only [zK]; rfl) rfl (by rfl) (fun w1 => ?y4) ?n4; (case y4 => go_simp; try with_reducible rfl); try simp only [Act.put, zL])
 (refine TD.call (f := ?f5) (args := ?r5) (Mod.refl _ _) (by simp only [zK]; rfl) rfl (by rfl) (fun w1 => ?y5) ?hsp5 ?n5; (case y5 => (go_simp; (first | with_reducible rfl | (constructor <;> with_reducible rfl)))); (case hsp5 => (intro wq hSq; have kp2q := hSq.at kp2 (fun h => h); exact (HC.out wq hSq).mono (fun e w' h => by obtain ⟨x, h1, h2, h3⟩ := h; exact ⟨_, h2, ⟨x, h1, rfl⟩, h3⟩))); rintro _ ⟨x, hB, rfl⟩; try simp only [Act.put, zL])
 (refine TD.val0 (v := ?v6) (by simp only [zK]; rfl) rfl (by rfl) (fun w1 => ?y6) ?n6; (case y6 => go_simp; try with_reducible rfl); try simp only [Act.put, zL])
 (refine TD.val0 (v := ?v7) (by simp only [zK]; rfl) rfl (by rfl) (fun w1 => ?y7) ?n7; (case y7 => go_simp; try with_reducible rfl); try simp only [Act.put, zL])
 (refine TD.val0 (v := ?v8) (by simp only [zK]; rfl) rfl (by rfl) (fun w1 => ?y8) ?n8; (case y8 => go_simp; try with_reducible rfl); try simp only [Act.put, zL])
 refine TD.eff (by simp only [zK]; rfl) rfl (fun w2 hr => ?_)
 have kp2 := hr.mod.at kp2 (fun h => h)
 have HB := Lib.hid hB
 clear hB
 have m2 := m1.then0 hr.mod
 clear hr
 (refine eff_store (X := ?X10) (Y := ?Y10) (w' := ?w10) (by simp only [zK]; rfl) (by rfl) rfl ?hx10 ?hz10 ?y10 ?n10; (case hx10 => simp only [Act.eval, zM]; try rfl); (case hz10 => simp only [Act.eval, zM]; try rfl); (case y10 => go_simp; try with_reducible rfl))
 (first | refine TE.mid_set kp2 (fun wn kp2 mS => ?_) | refine TE.mid_setCell kp2 (fun wn kp2 mS => ?_))
 (try simp only [Array.setIfInBounds, zL] at kp2)
 have m3 := m2.thenB mS (.inl gp2)
 clear mS
 (refine TE.val0 (v := ?v11) (by simp only [zK]; rfl) (by rfl) (fun w1 => ?y11) ?n11; (case y11 => go_simp; try with_reducible rfl); try simp only [Act.put, zL])
 (refine TE.val0 (v := ?v12) (by simp only [zK]; rfl) (by rfl) (fun w1 => ?y12) ?n12; (case y12 => go_simp; try with_reducible rfl); try simp only [Act.put, zL])
 refine TE.nil ?_
 go_wp2_with fail
 exact bodyPost_ret (results_cell3 (x := .agg (rkc x.r)) rfl rfl (by rw [ldRk]; simp [kp2, rkc])) rfl ⟨x, HB.out, rfl, m3⟩
set_option maxRecDepth 20000 in
set_option maxHeartbeats 3200000 in
theorem bot_c {h : Nat} {C : List Nd} {T : Nat → Prop} {w : World} (hA : HAt h C T w) (hC : C ≠ []) : Calls Tryz.prog 38 #[ptrV h] w fun e w' => ∃ x, Best true C x ∧ e = .returned (.tuple #[.agg (rkc x.r), .int .i64 x.id.toInt, .bool true]) ∧ Mod (fun _ => False) w w' := by
 have HA := Lib.hid hA
 clear hA
 go_enter Tryz.func38, Tryz.ntmps38
 go_upto_region 0 with fail
 refine wp_pass0 (C := fun _ _ _ => False) (κ := fun i => [3, 0, 0].getD i 0) [0, 1, 2] (by kernel_rfl) (by kernel_rfl) (fun _ _ d _ _ h => by cases d <;> first | exact h | exact absurd h (hP _ _ _)) ?_
 (refine TD.allocB (by simp only [zK]; rfl) rfl (by rfl) rfl rfl alRk (fun p2 hp2 => ?n13); try simp only [Act.put, zL])
 (refine TD.val0 (v := ?v14) (by simp only [zK]; rfl) rfl (by rfl) (fun w1 => ?y14) ?n14; (case y14 => go_simp; try with_reducible rfl); try simp only [Act.put, zL])
 (refine TD.val0 (v := ?v15) (by simp only [zK]; rfl) rfl (by rfl) (fun w1 => ?y15) ?n15; (case y15 => go_simp; try with_reducible rfl); try simp only [Act.put, zL])
 refine TD.nil (fun w1 hr => ?_)
 have kp2 := hr.box p2 _ (by first | exact Bx.set_same _ _ _ | (simp only [Bx.set_same]; rfl)); dsimp only [Value.cells] at kp2; obtain ⟨gp2, kp2⟩ := kp2
 have m1 := hr.mod
 clear hr
 have hA1 := (HAt.good h C).cl T w w1 HA.out (m1.mono (fun _ _ h => h.elim))
 have hcall : ∀ wq, Mod (fun _ => False) w1 wq → Calls Tryz.prog 67 #[ptrV h, .int .i64 1] wq fun e w' => ∃ x, Best true C x ∧ e = .returned (.tuple #[.agg (rkc x.r), .int .i64 x.id.toInt, .bool true]) ∧ Mod (fun _ => False) wq w' := fun wq hq => end1_c ((HAt.good h C).cl T w1 wq hA1 (hq.mono (fun _ _ h => h.elim))) hC true
 have HC := Lib.hid hcall
 clear hA1 hcall
 replace kp2 : w1.heap[p2]? = some (.cells #[.int .u64 0, .int .u64 0] 109 (0, 0)) := kp2
 go_upto_region 1 with fail
 have Lkp2 := lt_size kp2
 refine wp_pass0 (C := fun _ _ v => ∃ x, Best true C x ∧ v = .tuple #[.agg (rkc x.r), .int .i64 x.id.toInt, .bool true]) (κ := fun i => [0, 2, 0, 0, 0, 5, 0, 0].getD i 0) [0, 1, 2, 3, 4, 5, 6, 7] (by kernel_rfl) (by kernel_rfl) (fun _ _ d _ _ h => by cases d <;> first | exact h | exact absurd h (hP _ _ _)) ?_
 (refine TD.val0 (v := ?v16) (by simp only [zK]; rfl) rfl (by rfl) (fun w1 => ?y16) ?n16; (case y16 => go_simp; try with_reducible rfl); try simp only [Act.put, zL])
 (refine TD.call (f := ?f17) (args := ?r17) (Mod.refl _ _) (by simp only [zK]; rfl) rfl (by rfl) (fun w1 => ?y17) ?hsp17 ?n17; (case y17 => (go_simp; (first | with_reducible rfl | (constructor <;> with_reducible rfl)))); (case hsp17 => (intro wq hSq; have kp2q := hSq.at kp2 (fun h => h); exact (HC.out wq hSq).mono (fun e w' h => by obtain ⟨x, h1, h2, h3⟩ := h; exact ⟨_, h2, ⟨x, h1, rfl⟩, h3⟩))); rintro _ ⟨x, hB, rfl⟩; try simp only [Act.put, zL])
 (refine TD.val0 (v := ?v18) (by simp only [zK]; rfl) rfl (by rfl) (fun w1 => ?y18) ?n18; (case y18 => go_simp; try with_reducible rfl); try simp only [Act.put, zL])
 (refine TD.val0 (v := ?v19) (by simp only [zK]; rfl) rfl (by rfl) (fun w1 => ?y19) ?n19; (case y19 => go_simp; try with_reducible rfl); try simp only [Act.put, zL])
 (refine TD.val0 (v := ?v20) (by simp only [zK]; rfl) rfl (by rfl) (fun w1 => ?y20) ?n20; (case y20 => go_simp; try with_reducible rfl); try simp only [Act.put, zL])
 refine TD.eff (by simp only [zK]; rfl) rfl (fun w2 hr => ?_)
 have kp2 := hr.mod.at kp2 (fun h => h)
 have HB := Lib.hid hB
 clear hB
 have m2 := m1.then0 hr.mod
 clear hr
 (refine eff_store (X := ?X22) (Y := ?Y22) (w' := ?w22) (by simp only [zK]; rfl) (by rfl) rfl ?hx22 ?hz22 ?y22 ?n22; (case hx22 => simp only [Act.eval, zM]; try rfl); (case hz22 => simp only [Act.eval, zM]; try rfl); (case y22 => go_simp; try with_reducible rfl))
 (first | refine TE.mid_set kp2 (fun wn kp2 mS => ?_) | refine TE.mid_setCell kp2 (fun wn kp2 mS => ?_))
 (try simp only [Array.setIfInBounds, zL] at kp2)
 have m3 := m2.thenB mS (.inl gp2)
 clear mS
 (refine TE.val0 (v := ?v23) (by simp only [zK]; rfl) (by rfl) (fun w1 => ?y23) ?n23; (case y23 => go_simp; try with_reducible rfl); try simp only [Act.put, zL])
 (refine TE.val0 (v := ?v24) (by simp only [zK]; rfl) (by rfl) (fun w1 => ?y24) ?n24; (case y24 => go_simp; try with_reducible rfl); try simp only [Act.put, zL])
 refine TE.nil ?_
 go_wp2_with fail
 exact bodyPost_ret (results_cell3 (x := .agg (rkc x.r)) rfl rfl (by rw [ldRk]; simp [kp2, rkc])) rfl ⟨x, HB.out, rfl, m3⟩
end Go.Proofs.YtdeghpmlhcaedaaGreatDoor
namespace Go.Proofs.YtdeghpmlhcaedaaGreatDoor
open Go.RowKit Go.Sort
open Go.ChangeMaps (setBlock)
attribute [local go_sem ↓] wlRk ldRk stRk eqRk eqRk2 wlSides ldSides stSides
attribute [local go_sem] rkc_size ndc_size cell_blk frozen_blk one_int one_bool one_ptr one_slice one_map Value.cells enter_fn eqMap neMap ix0 ix1 rkc_all1
theorem results_cell2 {P : Program} {fn : Func} {t u : Tmp} {T : TypeId} {tmps : Array Value} {p : Addr} {x : Value} {w : World} (h : fn.results = #[.cell t T, .tmp u]) (ht : tmps.getD t undef = .pointer (some p))
  (hl : (Instr.loadAt T (.pointer (some p))).run P w = .ok x w) : (results fn tmps).run P w = .ok (.tuple #[x, tmps.getD u undef]) w := by
 have hl2 : (loadVar T p).run P w = .ok x w := by simpa [Instr.loadAt, Instr.sureAddr] using hl
 rw [zD] at ht
 simp only [results, h]
 simp [Sem.run_bind, Result.andThen, ht, asAddr, hl2]
theorem eff_callP {P : Program} {ops : Array Oper} {Q : Exit → Act → World → Prop} {κ : Nat → Nat} {i : Nat} {r : List Nat} {a : Act} {o : Oper} {w : World} {f : FuncId} {args : Array Value} {v : Value} {Post : World → Prop} (ho : ops[i]? = some o) (hw : Region.wanted o (yielded ops a.tmps) = true)
  (hy : (execOp a.eval o).run P w = .ok (.enter f args) w) (hc : Calls P f args w fun e w' => e = .returned v ∧ Post w') (hn : ∀ w', Post w' → TE P ops Q κ r (a.put o.dst v) w') : wpOp P ops Q i (fun a' w'' => TE P ops Q κ r a' w'') a w := by
 unfold wpOp
 simp only [ho, hw, if_true]
 refine .inl ?_
 unfold Oper.wp
 rw [hy]
 refine hc.mono ?_
 rintro e w' ⟨rfl, hp⟩
 exact hn w' hp
section
variable {w w' : World} {s s' : Nat} {k : Bool} {v v' : Value} {L L' : List Nat} {nd nd' : Nat → Nd} {o o' : Nat → Int}
theorem Sd.cell (h : Sd w s k v L nd o) {b : Nat} (hb : b ∈ L) : w.heap[b]? = some (.cells (ndc k (nd b) (L.idxOf b : Int) (o b)) 128 (0, 0)) :=
 h.nodes (L.idxOf b) b (by rw [List.getElem?_eq_getElem (List.idxOf_lt_length_of_mem hb)]; simp)
theorem Sd.notown (h : Sd w s k v L nd o) {x : Nat} {ob : Obj} (hx : w.heap[x]? = some ob) (hne : ∀ cs, ob ≠ .cells cs 104 (0, 0)) : v.ownBlock ≠ some x := fun e => by
 obtain ⟨cur, kg⟩ := own_block h.own e
 rw [hx] at kg
 exact hne _ (Option.some.inj kg)
theorem Sd.notin (h : Sd w s k v L nd o) {x : Nat} {ob : Obj} (hx : w.heap[x]? = some ob) (hne : ∀ cs, ob ≠ .cells cs 128 (0, 0)) : x ∉ L := fun e => by
 obtain ⟨i, hi⟩ := List.mem_iff_getElem?.1 e
 have := h.nodes i x hi
 rw [hx] at this
 exact hne _ (Option.some.inj this)
end
theorem del_map_perm {κ ν : Type} [DecidableEq κ] {m : List (κ × ν)} {k : κ} {b : ν} (h : lkp k m = some b) : (m.map Prod.snd).Perm ((del k m).map Prod.snd ++ [b]) := by
 induction m with
 | nil => cases h
 | cons p r ih =>
  unfold lkp at h
  unfold del
  by_cases hp : p.1 = k
  ·rw [if_pos hp] at h ⊢
   cases h
   simp only [List.map_cons]
   exact (List.perm_append_singleton _ _).symm
  ·rw [if_neg hp] at h ⊢
   simp only [List.map_cons, List.cons_append]
   exact (ih h).cons _
theorem del_eraseP {κ ν α : Type} [DecidableEq κ] {m : List (κ × ν)} {k : κ} (f : κ × ν → α) (g : α → Bool) (h : ∀ p ∈ m, g (f p) = decide (p.1 = k)) : (del k m).map f = (m.map f).eraseP g := by
 induction m with
 | nil => rfl
 | cons p r ih =>
  unfold del
  have hp := h p (by simp)
  by_cases e : p.1 = k
  ·rw [if_pos e, List.map_cons, List.eraseP_cons_of_pos (by rw [hp]; exact decide_eq_true e)]
  ·rw [if_neg e, List.map_cons, List.map_cons, List.eraseP_cons_of_neg (by rw [hp, decide_eq_false e]; simp), ih (fun q hq => h q (by simp [hq]))]
def DrS (w0 : World) (h s0 s1 mb : Nat) (v0 v1 : Value) (L0 L1 : List Nat) (nd : Nat → Nd) (m : List (Int64 × Nat)) (n : Nat) (j : Nat) (ws : World) : Prop :=
 ws.heap[h]? = some (.cells #[ptrV s0, ptrV s1, .map (some mb)] 99 (0, 0)) ∧ (∃ es c, ws.heap[mb]? = some (.map es c) ∧ MapIs idv ptrV es c m) ∧
 Mod (fun i => i = mb ∨ i = s0 ∨ i = s1 ∨ v0.ownBlock = some i ∨ v1.ownBlock = some i ∨ i ∈ L0 ∨ i ∈ L1) w0 ws ∧
 match j with
 | 0 => Sd ws s0 false v0 L0 nd (fun b => (L1.idxOf b : Int)) ∧ Sd ws s1 true v1 L1 nd (fun b => (L0.idxOf b : Int))
 | 1 => ∃ v0' L0' i', Sd ws s0 false v0' L0' nd (fun b => (L1.idxOf b : Int)) ∧ Sd ws s1 true v1 L1 nd (fun b => if b = n then i' else (L0'.idxOf b : Int)) ∧ HeapOk (lessOf false nd) L0'.length L0' ∧ (L0' ++ [n]).Perm L0 ∧ v0'.ownBlock = v0.ownBlock
 | _ => ∃ v0' L0' v1' L1', Hp ws h s0 s1 mb v0' v1' L0' L1' nd m ∧ (L0' ++ [n]).Perm L0 ∧ v0'.ownBlock = v0.ownBlock ∧ v1'.ownBlock = v1.ownBlock ∧ ∃ k i o, ws.heap[n]? = some (.cells (ndc k (nd n) i o) 128 (0, 0))
section
variable {w0 ws w1 : World} {h s0 s1 mb : Nat} {v0 v1 : Value} {L0 L1 : List Nat} {nd : Nat → Nd} {m : List (Int64 × Nat)} {n : Nat}
theorem DrS.mod0 {j : Nat} (H : DrS w0 h s0 s1 mb v0 v1 L0 L1 nd m n j ws) (hm : Mod (fun _ => False) ws w1) : DrS w0 h s0 s1 mb v0 v1 L0 L1 nd m n j w1 := by
 obtain ⟨kh, ⟨es, c, kb, M⟩, m0, H⟩ := H
 refine ⟨hm.at0 kh, ⟨es, c, hm.at0 kb, M⟩, m0.then0 hm, ?_⟩
 match j with
 | 0 => exact ⟨H.1.mod0 hm, H.2.mod0 hm⟩
 | 1 =>
  obtain ⟨v0', L0', i', d0, d1, H⟩ := H
  exact ⟨v0', L0', i', d0.mod0 hm, d1.mod0 hm, H⟩
 | j + 2 =>
  obtain ⟨v0', L0', v1', L1', hp, h1, h2, h3, k, i, o, kn⟩ := H
  exact ⟨v0', L0', v1', L1', hp.mod hm (fun _ _ e => e), h1, h2, h3, k, i, o, hm.at0 kn⟩
theorem DrS.one (H : DrS w0 h s0 s1 mb v0 v1 L0 L1 nd m n 0 ws) (hss : s0 ≠ s1) (hap : ∀ g, v0.ownBlock = some g → v1.ownBlock ≠ some g) (hp : L1.Perm L0) {v0' : Value} {L0' : List Nat}
  (hS : Sd w1 s0 false v0' L0' nd (fun b => (L1.idxOf b : Int))) (hok : HeapOk (lessOf false nd) L0'.length L0') (hperm : (L0' ++ [n]).Perm L0) (hm : Mod (fun x => x = s0 ∨ v0.ownBlock = some x ∨ x ∈ L0) ws w1)
  (hv : v0'.ownBlock = v0.ownBlock) {i' : Int} (hn : w1.heap[n]? = some (.cells (ndc false (nd n) i' (L1.idxOf n : Int)) 128 (0, 0))) : DrS w0 h s0 s1 mb v0 v1 L0 L1 nd m n 1 w1 := by
 obtain ⟨kh, ⟨es, c, kb, M⟩, m0, d0, d1⟩ := H
 have no : ∀ (x : Nat) (ob : Obj), ws.heap[x]? = some ob → x ≠ s0 → (∀ cs, ob ≠ .cells cs 104 (0, 0)) → (∀ cs, ob ≠ .cells cs 128 (0, 0)) → ¬ (x = s0 ∨ v0.ownBlock = some x ∨ x ∈ L0) := by
  rintro x ob hx h1 h2 h3 (e | e | e)
  ·exact h1 e
  ·exact d0.notown hx h2 e
  ·exact d0.notin hx h3 e
 have kh1 := hm.at kh (no _ _ kh (ne_of_obj kh d0.side (obj_ty (by decide))) (fun _ => obj_ty (by decide)) (fun _ => obj_ty (by decide)))
 have kb1 := hm.at kb (no _ _ kb (ne_of_obj kb d0.side (by simp)) (by simp) (by simp))
 have ks1 := hm.at d1.side (no _ _ d1.side (Ne.symm hss) (fun _ => obj_ty (by decide)) (fun _ => obj_ty (by decide)))
 have ho1 := d1.own.mod hm (fun g hg e => by
  obtain ⟨cur, kg⟩ := own_block d1.own hg
  rcases e with e | e | e
  ·exact ne_of_obj kg d0.side (obj_ty (by decide)) e
  ·exact hap g e hg
  ·exact d0.notin kg (fun _ => obj_ty (by decide)) e)
 refine ⟨kh1, ⟨es, c, kb1, M⟩, m0.then hm (fun i _ e => ?_), v0', L0', i', hS, ⟨ks1, ho1, fun i b hb => ?_⟩, hok, hperm, hv⟩
 ·rcases e with e | e | e
  ·exact .inr (.inl e)
  ·exact .inr (.inr (.inr (.inl e)))
  ·exact .inr (.inr (.inr (.inr (.inr (.inl e)))))
 ·have hbi := idx_at d1.nodup hb
  by_cases e : b = n
  ·subst e
   rw [if_pos rfl, ← ndc_not]
   rw [hbi] at hn
   exact hn
  ·rw [if_neg e, ← ndc_not]
   have h1 : b ∈ L0' := by
    rcases List.mem_append.1 (hperm.mem_iff.2 (hp.mem_iff.1 (List.mem_of_getElem? hb))) with h | h
    ·exact h
    ·exact absurd (List.mem_singleton.1 h) e
   have h2 := hS.cell h1
   simp only [hbi] at h2
   exact h2
theorem DrS.two (H : DrS w0 h s0 s1 mb v0 v1 L0 L1 nd m n 1 ws) (hss : s0 ≠ s1) (hap : ∀ g, v0.ownBlock = some g → v1.ownBlock ≠ some g) (hp : L1.Perm L0) (hids : ∀ i b, (i, b) ∈ m → (nd b).id = i) (hpm : L0.Perm (m.map Prod.snd ++ [n])) {v1' : Value} {L1' : List Nat} {o1 : Nat → Int}
  (ho1 : ∀ v0' L0' i', Sd ws s0 false v0' L0' nd (fun b => (L1.idxOf b : Int)) → Sd ws s1 true v1 L1 nd (fun b => if b = n then i' else (L0'.idxOf b : Int)) → (L0' ++ [n]).Perm L0 → ∀ b ∈ L1', o1 b = (L0'.idxOf b : Int))
  (hS : Sd w1 s1 true v1' L1' nd o1) (hok : HeapOk (lessOf true nd) L1'.length L1') (hperm : (L1' ++ [n]).Perm L1) (hm : Mod (fun x => x = s1 ∨ v1.ownBlock = some x ∨ x ∈ L1) ws w1)
  (hv : v1'.ownBlock = v1.ownBlock) {i' o' : Int} (hn : w1.heap[n]? = some (.cells (ndc true (nd n) i' o') 128 (0, 0))) : DrS w0 h s0 s1 mb v0 v1 L0 L1 nd m n 2 w1 := by
 obtain ⟨kh, ⟨es, c, kb, M⟩, m0, v0', L0', i0, d0, d1, hok0, hperm0, hv0⟩ := H
 have no : ∀ (x : Nat) (ob : Obj), ws.heap[x]? = some ob → x ≠ s1 → (∀ cs, ob ≠ .cells cs 104 (0, 0)) → (∀ cs, ob ≠ .cells cs 128 (0, 0)) → ¬ (x = s1 ∨ v1.ownBlock = some x ∨ x ∈ L1) := by
  rintro x ob hx h1 h2 h3 (e | e | e)
  ·exact h1 e
  ·exact d1.notown hx h2 e
  ·exact d1.notin hx h3 e
 have kh1 := hm.at kh (no _ _ kh (ne_of_obj kh d1.side (obj_ty (by decide))) (fun _ => obj_ty (by decide)) (fun _ => obj_ty (by decide)))
 have kb1 := hm.at kb (no _ _ kb (ne_of_obj kb d1.side (by simp)) (by simp) (by simp))
 have ks0 := hm.at d0.side (no _ _ d0.side hss (fun _ => obj_ty (by decide)) (fun _ => obj_ty (by decide)))
 have hown0 := d0.own.mod hm (fun g hg e => by
  obtain ⟨cur, kg⟩ := own_block d0.own hg
  rcases e with e | e | e
  ·exact ne_of_obj kg d1.side (obj_ty (by decide)) e
  ·rw [hv0] at hg
   exact hap g hg e
  ·exact d1.notin kg (fun _ => obj_ty (by decide)) e)
 have hnd0 : (L0' ++ [n]).Nodup := hperm0.nodup_iff.2 (hp.nodup_iff.1 d1.nodup)
 have hnn : n ∉ L0' := fun e => (List.nodup_append.1 hnd0).2.2 n e n (by simp) rfl
 have hpp : L1'.Perm L0' := (List.perm_append_right_iff [n]).1 (hperm.trans (hp.trans hperm0.symm))
 have hoo := ho1 v0' L0' i0 d0 d1 hperm0
 have hd1 : Sd w1 s1 true v1' L1' nd (fun b => (L0'.idxOf b : Int)) := hS.congr (fun _ _ => rfl) (fun b hb => (hoo b hb).symm)
 have hd0 : Sd w1 s0 false v0' L0' nd (fun b => (L1'.idxOf b : Int)) := hd1.other ks0 hown0 (fun b hb => hpp.mem_iff.2 hb) (fun i b hb => idx_at d0.nodup hb)
 have hpm0 : L0'.Perm (m.map Prod.snd) := (List.perm_append_right_iff [n]).1 (hperm0.trans hpm)
 refine ⟨kh1, ⟨es, c, kb1, M⟩, m0.then hm (fun i _ e => ?_), v0', L0', v1', L1', ⟨kh1, ⟨es, c, kb1, M⟩, hd0, hd1, hok0, hok, hpm0, hpp.trans hpm0, hids, fun g hg => by rw [hv]; rw [hv0] at hg; exact hap g hg, hss⟩, hperm0, hv0, hv, true, i', o', hn⟩
 rcases e with e | e | e
 ·exact .inr (.inr (.inl e))
 ·exact .inr (.inr (.inr (.inr (.inl e))))
 ·exact .inr (.inr (.inr (.inr (.inr (.inr e)))))
end
end Go.Proofs.YtdeghpmlhcaedaaGreatDoor
namespace Go.Proofs.YtdeghpmlhcaedaaGreatDoor
open Go.RowKit Go.Sort
open Go.ChangeMaps (setBlock)
attribute [local go_sem ↓] wlRk ldRk stRk eqRk eqRk2 wlSides ldSides stSides
attribute [local go_sem] rkc_size ndc_size cell_blk frozen_blk one_int one_bool one_ptr one_slice one_map Value.cells enter_fn eqMap neMap ix0 ix1 rkc_all1 ndc_rank ndc_id
theorem HAt.ids {h : Nat} {C : List Nd} {T : Nat → Prop} {w : World} (hA : HAt h C T w) : (C.map Nd.id).Nodup := by
 obtain ⟨s0, s1, mb, v0, v1, L0, L1, nd, m, H, rfl, hO⟩ := hA
 obtain ⟨es, c, kb, M⟩ := H.km
 have e : List.map (Nd.id ∘ fun p => nd p.snd) m = m.map Prod.fst := List.map_congr_left (fun p hp => H.ids p.1 p.2 hp)
 rw [List.map_map, e]
 exact M.nodup
set_option maxRecDepth 20000 in
set_option maxHeartbeats 6400000 in
theorem dropH_c {h : Nat} {C : List Nd} {T : Nat → Prop} {w : World} (hA : HAt h C T w) (hT : ∀ i, T i → i < w.heap.size) (id : Int64) (hC : C.length ≤ 700000) (hid : ∃ x ∈ C, x.id = id) :
  Calls Tryz.prog 41 #[ptrV h, .int .i64 id.toInt] w fun e w' => (∃ x ∈ C, x.id = id ∧ e = .returned (.tuple #[.agg (rkc x.r), .int .i64 0])) ∧ HAt h (C.eraseP (fun x => x.id == id)) T w' ∧ Mod T w w' := by
 obtain ⟨s0, s1, mb, v0, v1, L0, L1, nd, m, H, rfl, hO⟩ := hA
 obtain ⟨b, hb, hbL, hbid⟩ := H.at hid
 obtain ⟨es, c, kb, M⟩ := H.km
 have kh := H.kh
 have HH := Lib.hid H
 have HO := Lib.hid hO
 have HT := Lib.hid hT
 have HB := Lib.hid (And.intro hb (And.intro hbL hbid))
 have HL0 : Hid (L0.length = m.length ∧ L1.length = m.length ∧ m.length ≤ 700000 ∧ 0 < L0.length) := Lib.hid ⟨by rw [H.p0.length_eq, List.length_map], by rw [H.p1.length_eq, List.length_map], by simpa using hC, List.length_pos_of_mem hbL⟩
 have hlk : ∀ wq b', wq.heap[mb]? = some (.map es c) → (Instr.lookup 95 (.map (some mb)) (.int .i64 id.toInt) b').run Tryz.prog wq = _ := fun wq b' hq => M.lookup idT Tryz.underlying95 (z := .pointer none) (fun w => by kernel_rfl) wq hq id b'
 simp only [hb, Option.map_some, zE, Option.isSome_some] at hlk
 have HLK := Lib.hid hlk
 clear H hO hT hC hid hlk hb hbL hbid
 go_enter Tryz.func41, Tryz.ntmps41
 go_upto_region 0 with fail
 have Lkh := lt_size kh
 have Lkb := lt_size kb
 refine wp_pass0 (C := fun _ _ _ => False) (κ := fun i => [3, 0].getD i 0) [0, 1] (by kernel_rfl) (by kernel_rfl) (fun _ _ d _ _ h => by cases d <;> first | exact h | exact absurd h (hP _ _ _)) ?_
 (refine TD.allocB (by simp only [zK]; rfl) rfl (by rfl) rfl rfl alRk (fun p4 hp4 => ?n1); try simp only [Act.put, zL])
 (refine TD.val0 (v := ?v2) (by simp only [zK]; rfl) rfl (by rfl) (fun w1 => ?y2) ?n2; (case y2 => go_simp; try with_reducible rfl); try simp only [Act.put, zL])
 refine TD.nil (fun w1 hr => ?_)
 have kh := hr.mod.at kh (fun h => h)
 have kb := hr.mod.at kb (fun h => h)
 have kp4 := hr.box p4 _ (by first | exact Bx.set_same _ _ _ | (simp only [Bx.set_same]; rfl)); dsimp only [Value.cells] at kp4; obtain ⟨gp4, kp4⟩ := kp4
 have m1 := hr.mod
 clear hr
 go_wp2_with fail
 go_at_call 68
 refine (there_c kh).mono ?_
 rintro e w2 ⟨rfl, rfl⟩
 go_upto_region 3 with fail
 have hl : ∀ wq, Mod (fun _ => False) w2 wq → (Instr.lookup 95 (.map (some mb)) (.int .i64 id.toInt) true).run Tryz.prog wq = .ok (.tuple #[ptrV b, .bool true]) wq := fun wq hq => HLK.out wq true (hq.at0 kb)
 have Lkh := lt_size kh
 have Lkb := lt_size kb
 have Lkp4 := lt_size kp4
 refine wp_pass0 (C := fun _ _ _ => False) (κ := fun i => [0, 0, 0, 1, 0, 1, 0, 0, 0, 0, 0].getD i 0) [0, 1, 2, 3, 4, 5, 6, 7, 8, 9, 10] (by kernel_rfl) (by kernel_rfl) (fun _ _ d _ _ h => by cases d <;> first | exact h | exact absurd h (hP _ _ _)) ?_
 (refine TD.val0 (v := ?v3) (by simp only [zK]; rfl) rfl (by rfl) (fun w1 => ?y3) ?n3; (case y3 => go_simp; try with_reducible rfl); try simp only [Act.put, zL])
 (refine TD.val0 (v := ?v4) (by simp only [zK]; rfl) rfl (by rfl) (fun w1 => ?y4) ?n4; (case y4 => go_simp; try with_reducible rfl); try simp only [Act.put, zL])
 (refine TD.val0 (v := ?v5) (by simp only [zK]; rfl) rfl (by rfl) (fun w1 => ?y5) ?n5; (case y5 => go_simp; try with_reducible rfl); try simp only [Act.put, zL])
 (refine TD.load (v := ?v6) (p := ?p6) (Mod.refl _ _) (by simp only [zK]; rfl) rfl (by rfl) rfl ?hx6 (fun wq hSq => ?y6) ?n6; (case hx6 => simp only [Act.eval, zM]; try rfl); (case y6 => (have khq := hSq.at kh (fun h => h); have kbq := hSq.at kb (fun h => h); have kp4q := hSq.at kp4 (fun h => h); go_simp; (try with_reducible rfl))); try simp only [Act.put, zL])
 (refine TD.val0 (v := ?v7) (by simp only [zK]; rfl) rfl (by rfl) (fun w1 => ?y7) ?n7; (case y7 => go_simp; try with_reducible rfl); try simp only [Act.put, zL])
 (refine TD.lookup (v := ?v8) (p := ?p8) (q := ?q8) (Mod.refl _ _) (by simp only [zK]; rfl) rfl (by rfl) rfl ?hx8 ?hz8 (fun wq hSq => ?y8) ?n8; (case hx8 => simp only [Act.eval, zM]; try rfl); (case hz8 => simp only [Act.eval, zM]; try rfl); (case y8 => (rw [hl wq hSq]; (try with_reducible rfl))); try simp only [Act.put, zL])
 (refine TD.val0 (v := ?v9) (by simp only [zK]; rfl) rfl (by rfl) (fun w1 => ?y9) ?n9; (case y9 => go_simp; try with_reducible rfl); try simp only [Act.put, zL])
 (refine TD.val0 (v := ?v10) (by simp only [zK]; rfl) rfl (by rfl) (fun w1 => ?y10) ?n10; (case y10 => go_simp; try with_reducible rfl); try simp only [Act.put, zL])
 (refine TD.val0 (v := ?v11) (by simp only [zK]; rfl) rfl (by rfl) (fun w1 => ?y11) ?n11; (case y11 => go_simp; try with_reducible rfl); try simp only [Act.put, zL])
 (refine TD.val0 (v := ?v12) (by simp only [zK]; rfl) rfl (by rfl) (fun w1 => ?y12) ?n12; (case y12 => go_simp; try with_reducible rfl); try simp only [Act.put, zL])
 (refine TD.val0 (v := ?v13) (by simp only [zK]; rfl) rfl (by rfl) (fun w1 => ?y13) ?n13; (case y13 => go_simp; try with_reducible rfl); try simp only [Act.put, zL])
 refine TD.nil (fun w3 hr => ?_)
 have kh := hr.mod.at kh (fun h => h)
 have kb := hr.mod.at kb (fun h => h)
 have kp4 := hr.mod.at kp4 (fun h => h)
 have m3 := m1.then0 hr.mod
 clear hr hl HLK
 replace kp4 : w3.heap[p4]? = some (.cells #[.int .u64 0, .int .u64 0] 109 (0, 0)) := kp4
 have hb4 : p4 ≠ mb := ne_of_obj kp4 kb (by simp)
 have hbh : h ≠ mb := ne_of_obj kh kb (by simp)
 go_upto_region 6 with fail
 have Lkh := lt_size kh
 have Lkp4 := lt_size kp4
 have Lkb := lt_size kb
 refine wp_pass0 (C := fun _ _ _ => False) (κ := fun i => [0, 0, 0, 1, 0, 5].getD i 0) [0, 1, 2, 3, 4, 5] (by kernel_rfl) (by kernel_rfl) (fun _ _ d _ _ h => by cases d <;> first | exact h | exact absurd h (hP _ _ _)) ?_
 (refine TD.val0 (v := ?v14) (by simp only [zK]; rfl) rfl (by rfl) (fun w1 => ?y14) ?n14; (case y14 => go_simp; try with_reducible rfl); try simp only [Act.put, zL])
 (refine TD.val0 (v := ?v15) (by simp only [zK]; rfl) rfl (by rfl) (fun w1 => ?y15) ?n15; (case y15 => go_simp; try with_reducible rfl); try simp only [Act.put, zL])
 (refine TD.val0 (v := ?v16) (by simp only [zK]; rfl) rfl (by rfl) (fun w1 => ?y16) ?n16; (case y16 => go_simp; try with_reducible rfl); try simp only [Act.put, zL])
 (refine TD.load (v := ?v17) (p := ?p17) (Mod.refl _ _) (by simp only [zK]; rfl) rfl (by rfl) rfl ?hx17 (fun wq hSq => ?y17) ?n17; (case hx17 => simp only [Act.eval, zM]; try rfl); (case y17 => (have khq := hSq.at kh (fun h => h); have kp4q := hSq.at kp4 (fun h => h); have kbq := hSq.at kb (fun h => h); go_simp; (try with_reducible rfl))); try simp only [Act.put, zL])
 (refine TD.val0 (v := ?v18) (by simp only [zK]; rfl) rfl (by rfl) (fun w1 => ?y18) ?n18; (case y18 => go_simp; try with_reducible rfl); try simp only [Act.put, zL])
 refine TD.eff (by simp only [zK]; rfl) rfl (fun wE hr => ?_)
 have kh := hr.mod.at0 kh
 have kp4 := hr.mod.at0 kp4
 have kb := hr.mod.at0 kb
 have mE := hr.mod
 obtain ⟨es19, hrun19, Mkb⟩ := M.delete idT Tryz.underlying95 wE kb id
 (refine eff_delete (X := ?X19) (Y := ?Y19) (v := ?v19) (w' := ?w19) (by simp only [zK]; rfl) (by rfl) rfl ?hx19 ?hz19 ?y19 ?n19; (case hx19 => simp only [Act.eval, zM]; try rfl); (case hz19 => simp only [Act.eval, zM]; try rfl); (case y19 => exact hrun19))
 (first | refine TE.nil_set kb (fun w5 kb mS => ?_) | refine TE.nil_setCell kb (fun w5 kb mS => ?_))
 (try simp only [Array.setIfInBounds, zL] at kb)
 have kh := mS.at_ne kh (by omega)
 have kp4 := mS.at_ne kp4 (by omega)
 have m5 : Mod (fun i => i = mb) w w5 := ((m3.then0 mE).mono (fun _ _ h => h.elim)).then mS (fun _ _ h => h)
 clear mE mS
 go_upto_region 7 with fail
 have Lkh := lt_size kh
 have Lkb := lt_size kb
 have Lkp4 := lt_size kp4
 refine wp_pass0 (C := fun _ _ _ => False) (κ := fun i => [0, 0, 0, 1, 0].getD i 0) [0, 1, 2, 3, 4] (by kernel_rfl) (by kernel_rfl) (fun _ _ d _ _ h => by cases d <;> first | exact h | exact absurd h (hP _ _ _)) ?_
 (refine TD.val0 (v := ?v20) (by simp only [zK]; rfl) rfl (by rfl) (fun w1 => ?y20) ?n20; (case y20 => go_simp; try with_reducible rfl); try simp only [Act.put, zL])
 (refine TD.val0 (v := ?v21) (by simp only [zK]; rfl) rfl (by rfl) (fun w1 => ?y21) ?n21; (case y21 => go_simp; try with_reducible rfl); try simp only [Act.put, zL])
 (refine TD.val0 (v := ?v22) (by simp only [zK]; rfl) rfl (by rfl) (fun w1 => ?y22) ?n22; (case y22 => go_simp; try with_reducible rfl); try simp only [Act.put, zL])
 (refine TD.load (v := ?v23) (p := ?p23) (Mod.refl _ _) (by simp only [zK]; rfl) rfl (by rfl) rfl ?hx23 (fun wq hSq => ?y23) ?n23; (case hx23 => simp only [Act.eval, zM]; try rfl); (case y23 => (have khq := hSq.at kh (fun h => h); have kbq := hSq.at kb (fun h => h); have kp4q := hSq.at kp4 (fun h => h); go_simp; (try with_reducible rfl))); try simp only [Act.put, zL])
 (refine TD.val0 (v := ?v24) (by simp only [zK]; rfl) rfl (by rfl) (fun w1 => ?y24) ?n24; (case y24 => go_simp; try with_reducible rfl); try simp only [Act.put, zL])
 refine TD.nil (fun w6 hr => ?_)
 have kh := hr.mod.at kh (fun h => h)
 have kb := hr.mod.at kb (fun h => h)
 have kp4 := hr.mod.at kp4 (fun h => h)
 have m6 := m5.then0 hr.mod
 clear hr
 have sm : ∀ (k : Bool) (s : Nat) (v : Value) (L : List Nat) (o : Nat → Int), Sd w s k v L nd o → Sd w6 s k v L nd o := fun k s v L o hS => by
  obtain ⟨es0, c0, kb0, _⟩ := HH.out.km
  refine hS.mod m6 (fun e => ?_) (fun g hg e => ?_) (fun b hb e => ?_)
  ·exact ne_of_obj hS.side kb0 (by simp) e
  ·obtain ⟨cur, kg⟩ := own_block hS.own hg
   exact ne_of_obj kg kb0 (by simp) e
  ·obtain ⟨i, hi⟩ := List.mem_iff_getElem?.1 hb
   exact ne_of_obj (hS.nodes i _ hi) kb0 (by simp) e
 have HP0 : Hid (DrS w6 h s0 s1 mb v0 v1 L0 L1 nd (del id m) b 0 w6) := Lib.hid ⟨kh, ⟨_, _, kb, Mkb⟩, Mod.refl _ _, sm _ _ _ _ _ HH.out.d0, sm _ _ _ _ _ HH.out.d1⟩
 have HK := Lib.hid (And.intro kp4 gp4)
 have HX0 : Hid (L0[L0.idxOf b]? = some b ∧ L1[L1.idxOf b]? = some b ∧ b ∈ L1) := Lib.hid (by
  have h1 : b ∈ L1 := HH.out.p1.mem_iff.2 (HH.out.p0.mem_iff.1 HB.out.2.1)
  exact ⟨by rw [List.getElem?_eq_getElem (List.idxOf_lt_length_of_mem HB.out.2.1)]; simp, by rw [List.getElem?_eq_getElem (List.idxOf_lt_length_of_mem h1)]; simp, h1⟩)
 clear kb Mkb kh kp4 gp4 sm hb4 hbh M
 go_wp2_with fail
 go_loopw [35, 9] (fun s35 _ ws => ∃ j : Nat, j ≤ 2 ∧ s35 = .int .i64 (j : Int) ∧ Hid (DrS w6 h s0 s1 mb v0 v1 L0 L1 nd (del id m) b j ws)) (fun s35 _ _ => 2 - (intOf s35).toNat)
 case atStart => exact ⟨0, by omega, rfl, HP0⟩
 case round =>
  obtain ⟨j, hj, rfl, HP⟩ := hrel
  clear HP0
  rcases (show j = 0 ∨ j = 1 ∨ j = 2 by omega) with rfl | rfl | rfl
  ·obtain ⟨_, _, _, d0, d1⟩ := _root_.id HP.out
   have ks := d0.side
   have kn0 := d0.cell HB.out.2.1
   simp only [ndc, if_true, if_false, Bool.false_eq_true] at kn0
   simp only [sdc, kn, if_true, if_false, Bool.false_eq_true] at ks
   clear d0 d1
   go_upto_region 10 with fail
   have Lks := lt_size ks
   have Lkn0 := lt_size kn0
   refine wp_pass (C := fun _ _ _ => False) (κ := fun i => [0, 0, 0, 0, 0, 0, 1, 0, 0, 0, 1, 5].getD i 0) [0, 1, 2, 3, 4, 5, 6, 7, 8, 9, 10, 11] (by kernel_rfl) (by kernel_rfl) (fun _ _ d _ _ h => by cases d <;> first | exact h | exact absurd h (hP _ _ _)) ?_
   (refine TD.val0 (v := ?v25) (by simp only [zK]; rfl) rfl (by rfl) (fun w1 => ?y25) ?n25; (case y25 => go_simp; try with_reducible rfl); try simp only [Act.put, zL])
   (refine TD.val0 (v := ?v26) (by simp only [zK]; rfl) rfl (by rfl) (fun w1 => ?y26) ?n26; (case y26 => go_simp; try with_reducible rfl); try simp only [Act.put, zL])
   (refine TD.val0 (v := ?v27) (by simp only [zK]; rfl) rfl (by rfl) (fun w1 => ?y27) ?n27; (case y27 => go_simp; try with_reducible rfl); try simp only [Act.put, zL])
   (refine TD.val0 (v := ?v28) (by simp only [zK]; rfl) rfl (by rfl) (fun w1 => ?y28) ?n28; (case y28 => go_simp; try with_reducible rfl); try simp only [Act.put, zL])
   (refine TD.val0 (v := ?v29) (by simp only [zK]; rfl) rfl (by rfl) (fun w1 => ?y29) ?n29; (case y29 => go_simp; try with_reducible rfl); try simp only [Act.put, zL])
   (refine TD.val0 (v := ?v30) (by simp only [zK]; rfl) rfl (by rfl) (fun w1 => ?y30) ?n30; (case y30 => go_simp; try with_reducible rfl); try simp only [Act.put, zL])
   (refine TD.load (v := ?v31) (p := ?p31) (Mod.refl _ _) (by simp only [zK]; rfl) rfl (by rfl) rfl ?hx31 (fun wq hSq => ?y31) ?n31; (case hx31 => simp only [Act.eval, zM]; try rfl); (case y31 => (have ksq := hSq.at ks (fun h => h); have kn0q := hSq.at kn0 (fun h => h); go_simp; (try with_reducible rfl))); try simp only [Act.put, zL])
   (refine TD.val0 (v := ?v32) (by simp only [zK]; rfl) rfl (by rfl) (fun w1 => ?y32) ?n32; (case y32 => go_simp; try with_reducible rfl); try simp only [Act.put, zL])
   (refine TD.val0 (v := ?v33) (by simp only [zK]; rfl) rfl (by rfl) (fun w1 => ?y33) ?n33; (case y33 => go_simp; try with_reducible rfl); try simp only [Act.put, zL])
   (refine TD.val0 (v := ?v34) (by simp only [zK]; rfl) rfl (by rfl) (fun w1 => ?y34) ?n34; (case y34 => go_simp; try with_reducible rfl); try simp only [Act.put, zL])
   (refine TD.load (v := ?v35) (p := ?p35) (Mod.refl _ _) (by simp only [zK]; rfl) rfl (by rfl) rfl ?hx35 (fun wq hSq => ?y35) ?n35; (case hx35 => simp only [Act.eval, zM]; try rfl); (case y35 => (have ksq := hSq.at ks (fun h => h); have kn0q := hSq.at kn0 (fun h => h); go_simp; (try with_reducible rfl))); try simp only [Act.put, zL])
   refine TD.eff (by simp only [zK]; rfl) rfl (fun w7 hr => ?_)
   have ks := hr.mod.at ks (fun h => h)
   have kn0 := hr.mod.at kn0 (fun h => h)
   have HD := Lib.hid (HP.out.mod0 hr.mod)
   have hcall : Calls Tryz.prog 69 #[hpV s0, .int .i64 (L0.idxOf b : Int)] w7 fun e w' => e = .returned (.iface 104 (ptrV b)) ∧ DrS w6 h s0 s1 mb v0 v1 L0 L1 nd (del id m) b 1 w' := (hremove_c HD.out.2.2.2.1 (n := L0.length - 1) (by have := HL0.out; omega) HX0.out.1 (by have := HL0.out; omega) HH.out.ok0).mono (fun e w' h => by
    obtain ⟨v', L', he, hS, hok, hperm, hm, hv, i', hn⟩ := h
    exact ⟨he, DrS.one HD.out HH.out.ss HH.out.ap (HH.out.p1.trans HH.out.p0.symm) hS hok hperm hm hv hn⟩)
   clear ks kn0 hr
   (refine eff_callP (by simp only [zK]; rfl) (by rfl) ?y37 hcall (fun wn hP => ?n37); (case y37 => (go_simp; (try (first | with_reducible rfl | (constructor <;> with_reducible rfl))))); try simp only [Act.put, zL])
   refine TE.nil ?_
   have HX := Lib.hid hP
   clear hP hcall HD HP
   go_wp2_with fail
   go_roundw
   case rel => exact ⟨1, by omega, by go_num, HX⟩
   case measure => simp [intOf]
  ·obtain ⟨_, _, _, v0', L0', i', d0, d1, _, hperm, _⟩ := _root_.id HP.out
   have ks := d1.side
   have kn0 : wr.heap[b]? = some (.cells (ndc true (nd b) (L1.idxOf b : Int) i') 128 (0, 0)) := by
    have h := d1.cell HX0.out.2.2
    rw [if_pos rfl] at h
    exact h
   simp only [ndc, if_true, if_false, Bool.false_eq_true] at kn0
   simp only [sdc, kn, if_true, if_false, Bool.false_eq_true] at ks
   have D1 := Lib.hid d1
   clear d0 d1 hperm
   go_upto_region 10 with fail
   have Lks := lt_size ks
   have Lkn0 := lt_size kn0
   refine wp_pass (C := fun _ _ _ => False) (κ := fun i => [0, 0, 0, 0, 0, 0, 1, 0, 0, 0, 1, 5].getD i 0) [0, 1, 2, 3, 4, 5, 6, 7, 8, 9, 10, 11] (by kernel_rfl) (by kernel_rfl) (fun _ _ d _ _ h => by cases d <;> first | exact h | exact absurd h (hP _ _ _)) ?_
   (refine TD.val0 (v := ?v38) (by simp only [zK]; rfl) rfl (by rfl) (fun w1 => ?y38) ?n38; (case y38 => go_simp; try with_reducible rfl); try simp only [Act.put, zL])
   (refine TD.val0 (v := ?v39) (by simp only [zK]; rfl) rfl (by rfl) (fun w1 => ?y39) ?n39; (case y39 => go_simp; try with_reducible rfl); try simp only [Act.put, zL])
   (refine TD.val0 (v := ?v40) (by simp only [zK]; rfl) rfl (by rfl) (fun w1 => ?y40) ?n40; (case y40 => go_simp; try with_reducible rfl); try simp only [Act.put, zL])
   (refine TD.val0 (v := ?v41) (by simp only [zK]; rfl) rfl (by rfl) (fun w1 => ?y41) ?n41; (case y41 => go_simp; try with_reducible rfl); try simp only [Act.put, zL])
   (refine TD.val0 (v := ?v42) (by simp only [zK]; rfl) rfl (by rfl) (fun w1 => ?y42) ?n42; (case y42 => go_simp; try with_reducible rfl); try simp only [Act.put, zL])
   (refine TD.val0 (v := ?v43) (by simp only [zK]; rfl) rfl (by rfl) (fun w1 => ?y43) ?n43; (case y43 => go_simp; try with_reducible rfl); try simp only [Act.put, zL])
   (refine TD.load (v := ?v44) (p := ?p44) (Mod.refl _ _) (by simp only [zK]; rfl) rfl (by rfl) rfl ?hx44 (fun wq hSq => ?y44) ?n44; (case hx44 => simp only [Act.eval, zM]; try rfl); (case y44 => (have ksq := hSq.at ks (fun h => h); have kn0q := hSq.at kn0 (fun h => h); go_simp; (try with_reducible rfl))); try simp only [Act.put, zL])
   (refine TD.val0 (v := ?v45) (by simp only [zK]; rfl) rfl (by rfl) (fun w1 => ?y45) ?n45; (case y45 => go_simp; try with_reducible rfl); try simp only [Act.put, zL])
   (refine TD.val0 (v := ?v46) (by simp only [zK]; rfl) rfl (by rfl) (fun w1 => ?y46) ?n46; (case y46 => go_simp; try with_reducible rfl); try simp only [Act.put, zL])
   (refine TD.val0 (v := ?v47) (by simp only [zK]; rfl) rfl (by rfl) (fun w1 => ?y47) ?n47; (case y47 => go_simp; try with_reducible rfl); try simp only [Act.put, zL])
   (refine TD.load (v := ?v48) (p := ?p48) (Mod.refl _ _) (by simp only [zK]; rfl) rfl (by rfl) rfl ?hx48 (fun wq hSq => ?y48) ?n48; (case hx48 => simp only [Act.eval, zM]; try rfl); (case y48 => (have ksq := hSq.at ks (fun h => h); have kn0q := hSq.at kn0 (fun h => h); go_simp; (try with_reducible rfl))); try simp only [Act.put, zL])
   refine TD.eff (by simp only [zK]; rfl) rfl (fun w7 hr => ?_)
   have ks := hr.mod.at ks (fun h => h)
   have kn0 := hr.mod.at kn0 (fun h => h)
   have HD := Lib.hid (HP.out.mod0 hr.mod)
   have hcall : Calls Tryz.prog 69 #[hpV s1, .int .i64 (L1.idxOf b : Int)] w7 fun e w' => e = .returned (.iface 104 (ptrV b)) ∧ DrS w6 h s0 s1 mb v0 v1 L0 L1 nd (del id m) b 2 w' := (hremove_c (D1.out.mod0 hr.mod) (n := L1.length - 1) (by have := HL0.out; omega) HX0.out.2.1 (by have := HL0.out; omega) HH.out.ok1).mono (fun e w' h => by
    obtain ⟨v', L', he, hS, hok, hperm, hm, hv, i2, hn⟩ := h
    refine ⟨he, DrS.two HD.out HH.out.ss HH.out.ap (HH.out.p1.trans HH.out.p0.symm) (fun i x hx => HH.out.ids i x ((del_sub id m).subset hx)) (HH.out.p0.trans (del_map_perm HB.out.1)) (fun v2 L2 i3 e0 e1 hp2 x hx => ?_) hS hok hperm hm hv hn⟩
    have hnd : (L' ++ [b]).Nodup := hperm.nodup_iff.2 D1.out.nodup
    have hxb : x ≠ b := fun e => (List.nodup_append.1 hnd).2.2 x hx b (by simp) e
    have hx1 : x ∈ L1 := hperm.mem_iff.1 (by simp [hx])
    have c1 := (D1.out.mod0 hr.mod).cell hx1
    have c2 := e1.cell hx1
    rw [c1] at c2
    simp only [ndc, if_neg hxb, Option.some.injEq, Obj.cells.injEq, Array.mk.injEq, List.cons.injEq, Value.int.injEq, true_and, and_true, if_true] at c2
    rw [if_neg hxb]
    exact c2)
   clear ks kn0 hr
   (refine eff_callP (by simp only [zK]; rfl) (by rfl) ?y50 hcall (fun wn hP => ?n50); (case y50 => (go_simp; (try (first | with_reducible rfl | (constructor <;> with_reducible rfl))))); try simp only [Act.put, zL])
   refine TE.nil ?_
   have HX := Lib.hid hP
   clear hP hcall HD HP
   go_wp2_with fail
   go_roundw
   case rel => exact ⟨2, by omega, by go_num, HX⟩
   case measure => simp [intOf]
  ·obtain ⟨_, _, hmw, v0', L0', v1', L1', hp, hperm, hv0, hv1, k, i, o, kn0⟩ := _root_.id HP.out
   have hown : ∀ x, Hown h s0 s1 mb v0 v1 L0 x → x < w.heap.size := fun x hx => HT.out x (HO.out x hx)
   have hch : ∀ x, (x = mb ∨ x = s0 ∨ x = s1 ∨ v0.ownBlock = some x ∨ v1.ownBlock = some x ∨ x ∈ L0 ∨ x ∈ L1) → Hown h s0 s1 mb v0 v1 L0 x := by
    rintro x (e | e | e | e | e | e | e)
    ·exact .inr (.inr (.inr (.inl e)))
    ·exact .inr (.inl e)
    ·exact .inr (.inr (.inl e))
    ·exact .inr (.inr (.inr (.inr (.inl e))))
    ·exact .inr (.inr (.inr (.inr (.inr (.inl e)))))
    ·exact .inr (.inr (.inr (.inr (.inr (.inr e)))))
    ·exact .inr (.inr (.inr (.inr (.inr (.inr (HH.out.p0.mem_iff.2 (HH.out.p1.mem_iff.1 e)))))))
   have hown2 : ∀ x, Hown h s0 s1 mb v0' v1' L0' x → Hown h s0 s1 mb v0 v1 L0 x := by
    rintro x (e | e | e | e | e | e | e)
    ·exact .inl e
    ·exact .inr (.inl e)
    ·exact .inr (.inr (.inl e))
    ·exact .inr (.inr (.inr (.inl e)))
    ·exact .inr (.inr (.inr (.inr (.inl (hv0 ▸ e)))))
    ·exact .inr (.inr (.inr (.inr (.inr (.inl (hv1 ▸ e))))))
    ·exact .inr (.inr (.inr (.inr (.inr (.inr (hperm.mem_iff.1 (by simp [e])))))))
   have kp4 := hmw.at HK.out.1 (fun e => by
    have h1 := hown _ (hch _ e)
    have h2 := HK.out.2
    omega)
   have HF := Lib.hid (And.intro hmw (And.intro hp (And.intro hown (And.intro hch hown2))))
   clear hmw hp hperm hv0 hv1 hown hch hown2
   go_upto_region 12 with fail
   have Lkn0 := lt_size kn0
   have Lkp4 := lt_size kp4
   refine wp_pass0 (C := fun _ _ _ => False) (κ := fun i => [0, 0, 0, 1, 5, 0].getD i 0) [0, 1, 2, 3, 4, 5] (by kernel_rfl) (by kernel_rfl) (fun _ _ d _ _ h => by cases d <;> first | exact h | exact absurd h (hP _ _ _)) ?_
   (refine TD.val0 (v := ?v51) (by simp only [zK]; rfl) rfl (by rfl) (fun w1 => ?y51) ?n51; (case y51 => go_simp; try with_reducible rfl); try simp only [Act.put, zL])
   (refine TD.val0 (v := ?v52) (by simp only [zK]; rfl) rfl (by rfl) (fun w1 => ?y52) ?n52; (case y52 => go_simp; try with_reducible rfl); try simp only [Act.put, zL])
   (refine TD.val0 (v := ?v53) (by simp only [zK]; rfl) rfl (by rfl) (fun w1 => ?y53) ?n53; (case y53 => go_simp; try with_reducible rfl); try simp only [Act.put, zL])
   (refine TD.load (v := ?v54) (p := ?p54) (Mod.refl _ _) (by simp only [zK]; rfl) rfl (by rfl) rfl ?hx54 (fun wq hSq => ?y54) ?n54; (case hx54 => simp only [Act.eval, zM]; try rfl); (case y54 => (have kn0q := hSq.at kn0 (fun h => h); have kp4q := hSq.at kp4 (fun h => h); go_simp; (try with_reducible rfl))); try simp only [Act.put, zL])
   refine TD.eff (by simp only [zK]; rfl) rfl (fun w7 hr => ?_)
   have kn0 := hr.mod.at kn0 (fun h => h)
   have kp4 := hr.mod.at kp4 (fun h => h)
   have hmF := hr.mod
   clear hr
   (refine eff_store (X := ?X56) (Y := ?Y56) (w' := ?w56) (by simp only [zK]; rfl) (by rfl) rfl ?hx56 ?hz56 ?y56 ?n56; (case hx56 => simp only [Act.eval, zM]; try rfl); (case hz56 => simp only [Act.eval, zM]; try rfl); (case y56 => go_simp; try with_reducible rfl))
   (first | refine TE.mid_set kp4 (fun wn kp4 mS => ?_) | refine TE.mid_setCell kp4 (fun wn kp4 mS => ?_))
   (try simp only [Array.setIfInBounds, zL] at kp4)
   have hmG : Mod (fun i => i = p4) wr wn := ((hmF.mono (fun _ _ h => h.elim)).then mS (fun _ _ e => e))
   clear mS hmF
   (refine TE.val0 (v := ?v57) (by simp only [zK]; rfl) (by rfl) (fun w1 => ?y57) ?n57; (case y57 => go_simp; try with_reducible rfl); try simp only [Act.put, zL])
   refine TE.nil ?_
   go_wp2_with fail
   obtain ⟨hmw, hp, hown, hch, hown2⟩ := HF.out
   refine bodyPost_ret (results_cell2 (x := .agg (rkc (nd b).r)) rfl rfl (by rw [ldRk]; simp [kp4, rkc])) rfl ⟨⟨nd b, List.mem_map.2 ⟨(id, b), lkp_mem HB.out.1, rfl⟩, HB.out.2.2, rfl⟩, ⟨s0, s1, mb, v0', v1', L0', L1', nd, del id m, hp.mod hmG (fun x hx e => ?_), ?_, fun x hx => HO.out x (hown2 x hx)⟩, ?_⟩
   ·have h1 := hown _ (hown2 _ hx)
    have h2 := HK.out.2
    omega
   ·refine (del_eraseP _ _ (fun p hp => ?_)).symm
    show ((nd p.2).id == id) = decide (p.1 = id)
    rw [HH.out.ids p.1 p.2 hp]
    rfl
   ·refine ((m6.mono (T := T) (fun x _ e => HO.out x (.inr (.inr (.inr (.inl e)))))).then hmw (fun x hx e => HO.out x (hch x e))).then hmG (fun x hx e => ?_)
    have h2 := HK.out.2
    omega
end Go.Proofs.YtdeghpmlhcaedaaGreatDoor
namespace Go.Proofs.YtdeghpmlhcaedaaGreatDoor
open Go.RowKit Go.Shelf
attribute [local go_sem] Oper.semAt_some
def upto {α : Type} (f : Nat → α) (k : Nat) : List α := (List.range k).map f
theorem upto_succ {α : Type} (f : Nat → α) (k : Nat) : upto f (k + 1) = upto f k ++ [f k] := by simp [upto, List.range_succ]
theorem upto_length {α : Type} (f : Nat → α) (k : Nat) : (upto f k).length = k := by simp [upto]
theorem upto_all (zs : List Nat) : upto (fun j => zs[j]?.getD 0) zs.length = zs := by
 apply List.ext_getElem
 ·simp [upto]
 ·intro i h1 h2
  simp [upto, h2]
theorem upto_take (zs : List Nat) {k : Nat} (hk : k ≤ zs.length) : upto (fun j => zs[j]?.getD 0) k = zs.take k := by
 apply List.ext_getElem
 ·simp [upto, hk]
 ·intro i h1 h2
  have : i < zs.length := by simp [upto] at h1; omega
  simp [upto, this]
set_option maxRecDepth 100000 in
set_option maxHeartbeats 2000000 in
theorem values1_in (F : Fence) (n : Nat) (h7 : F.fn 92) (hro : F.round = none) (hn : 1 ≤ n) (l Bs n₀ b off len cap : Nat) (zs : List Nat) (hreach : len * 8 ≤ 140737488351232) (hb : b < n₀) (J Jx : List Nat → World → Prop)
  (hY : ∀ pre x W, J pre W → pre.length < len → YieldAt F (n - 1) Tryz.prog l #[ptrV x] W fun e W' =>
   (e = .returned (.bool true) ∧ J (pre ++ [x]) W' ∧ Below n₀ W W') ∨ (e = .returned (.bool false) ∧ Jx (pre ++ [x]) W'))
  (W : World) (hBs : W.cell? ⟨Bs, 0, none⟩ = some (.slice (some ⟨b, off, none⟩) len cap)) (hc : ∀ j, j < len → W.cell? ⟨b, off + j, none⟩ = some (ptrV (zs[j]?.getD 0))) (h0 : J [] W) :
  CallsIn F n Tryz.prog 92 #[.func (.yield l) #[] #[], .pointer (some ⟨Bs, 0, none⟩)] W fun e W' => (∃ v, e = .returned v) ∧
   ((∃ ys, ys = upto (fun j => zs[j]?.getD 0) len ∧ J ys W') ∨ (∃ pre, (∃ k, k ≤ len ∧ pre = upto (fun j => zs[j]?.getD 0) k) ∧ Jx pre W')) := by
 refine callsIn_of_wp Tryz.func92 rfl h7 ?_ hro
 simp only [Tryz.ntmps92, List.size_toArray, List.length_cons, List.length_nil, Nat.reduceAdd, Nat.reduceSub, Array.replicate_succ, Array.replicate_zero, List.push_toArray, List.append_toArray, List.nil_append, List.cons_append]
 gi_wp2
 gi_loopw [7] (fun i wr => ∃ k : Nat, k ≤ len ∧ i = .int .i64 k ∧ J (upto (fun j => zs[j]?.getD 0) k) wr ∧ Below n₀ W wr)
  (fun i _ => len - (intOf i).toNat)
 case atStart => exact ⟨0, Nat.zero_le _, rfl, h0, Below.refl _ _⟩
 case round =>
  obtain ⟨k, hk, rfl, hJs, hnx⟩ := hrel
  have hcx : k < len → wr.cell? ⟨b, off + k, none⟩ = some (ptrV (zs[k]?.getD 0)) := fun h => (hnx.cell (p := ⟨b, off + k, none⟩) hb).trans (hc k h)
  by_cases hlt : k < len
  ·obtain ⟨fn, tmps, assign, body, hy, hR⟩ := hY _ (zs[k]?.getD 0) wr hJs (by rw [upto_length]; exact hlt)
   have hcx' := hcx hlt
   gi_wp2
   refine hR.mono ?_
   rintro e W3 (⟨rfl, hJ3, hk3⟩ | ⟨rfl, hJx3⟩)
   ·gi_wp2
    go_roundw
    case rel => exact ⟨k + 1, by omega, by simp, by rw [upto_succ]; exact hJ3, hnx.trans hk3⟩
    case measure => simp [intOf]; omega
   ·gi_wp2
    refine bodyPost_ret (results_none rfl _ _ _) rfl ?_
    exact ⟨⟨_, rfl⟩, .inr ⟨_, ⟨k + 1, by omega, (upto_succ _ _).symm⟩, hJx3⟩⟩
  ·obtain rfl : k = len := by omega
   gi_wp2
   go_end0
   exact ⟨⟨_, rfl⟩, .inl ⟨_, rfl, hJs⟩⟩
def Ptrs (n₀ : Nat) (W : World) (sv : Value) (zs : List Nat) : Prop :=
 (sv = .slice none 0 0 ∧ zs = []) ∨ ∃ b off cap, sv = .slice (some ⟨b, off, none⟩) zs.length cap ∧ b < n₀ ∧ ∀ j, j < zs.length → W.cell? ⟨b, off + j, none⟩ = some (ptrV (zs[j]?.getD 0))
theorem Ptrs.below {n₀ : Nat} {A B : World} (h : Below n₀ A B) {sv : Value} {zs : List Nat} : Ptrs n₀ A sv zs → Ptrs n₀ B sv zs
 | .inl e => .inl e
 | .inr ⟨b, off, cap, e, hb, hc⟩ => .inr ⟨b, off, cap, e, hb, fun j hj => (h.cell (p := ⟨b, off + j, none⟩) hb).trans (hc j hj)⟩
theorem Ptrs.own {w : World} {v : Value} {L : List Nat} (h : SlOwn pc 1 104 w 0 v L) : Ptrs w.heap.size w v L := by
 by_cases hL : L = []
 ·subst hL
  rcases h.2 with ⟨rfl, _⟩ | ⟨g, cap, cur, rfl, _, hg, _⟩
  ·exact .inl ⟨rfl, rfl⟩
  ·exact .inr ⟨g, 0, cap, rfl, lt_size hg, fun j hj => by cases hj⟩
 ·obtain ⟨g, cap, cur, rfl, _, kg, _, hcs, hcur, _⟩ := own_row h hL
  refine .inr ⟨g, 0, cap, rfl, lt_size kg, fun j hj => ?_⟩
  rw [Nat.zero_add, cell_blk, kg]
  simp only [List.getElem?_eq_getElem hj, zE]
  exact hcur j _ (List.getElem?_eq_getElem hj)
set_option maxRecDepth 100000 in
set_option maxHeartbeats 1000000 in
theorem values1_nil_in (F : Fence) (n : Nat) (h7 : F.fn 92) (hro : F.round = none) (l Bs : Nat) (J : List Nat → World → Prop) (W : World) (hBs : W.cell? ⟨Bs, 0, none⟩ = some (.slice none 0 0)) (h0 : J [] W) :
  CallsIn F n Tryz.prog 92 #[.func (.yield l) #[] #[], .pointer (some ⟨Bs, 0, none⟩)] W fun e W' => (∃ v, e = .returned v) ∧ J [] W' := by
 refine callsIn_of_wp Tryz.func92 rfl h7 ?_ hro
 simp only [Tryz.ntmps92, List.size_toArray, List.length_cons, List.length_nil, Nat.reduceAdd, Nat.reduceSub, Array.replicate_succ, Array.replicate_zero, List.push_toArray, List.append_toArray, List.nil_append, List.cons_append]
 gi_wp2
 gi_loopw [7] (fun i wr => i = .int .i64 0 ∧ J [] wr) (fun _ _ => 0)
 case atStart => exact ⟨rfl, h0⟩
 case round =>
  obtain ⟨rfl, hJs⟩ := hrel
  gi_wp2
  go_end0
  exact ⟨⟨_, rfl⟩, hJs⟩
set_option maxHeartbeats 1000000 in
theorem values_c (a : Option Addr) (len cap : Nat) (w : World) :
  Calls Tryz.prog 73 #[.slice a len cap] w fun e w' => e = .returned (.func (.func 92) #[] #[.pointer (some ⟨w.heap.size, 0, none⟩)]) ∧ w' = w.alloc (.cells #[.slice a len cap] 101) := by
 go_enter Tryz.func73, Tryz.ntmps73
 go_wp2_with fail
 go_ret
 exact ⟨rfl, rfl⟩
theorem values_stops (F : Fence) (n : Nat) (h7 : F.fn 92) (hro : F.round = none) (hn : 1 ≤ n) (Bs n₀ : Nat) (sv : Value) (zs : List Nat) (hreach : zs.length * 8 ≤ 140737488351232) (w : World) (hBs : Bs < w.heap.size) (hn₀ : n₀ ≤ w.heap.size)
  (hc : w.cell? ⟨Bs, 0, none⟩ = some sv) (hI : Ptrs n₀ w sv zs) :
  SeqStopsK F n Tryz.prog 92 #[.pointer (some ⟨Bs, 0, none⟩)] (fun x : Nat => #[ptrV x]) (Below n₀) (fun ys => ys = zs) (fun pre => pre <+: zs) zs.length w := fun l J Jx W hW _ _ hY h0 => by
 have hc' := (hW.cell (p := ⟨Bs, 0, none⟩) hBs).trans hc
 rcases hI.below (hW.mono hn₀) with ⟨rfl, rfl⟩ | ⟨b, off, cap, rfl, hb, hcs⟩
 ·exact (values1_nil_in F n h7 hro l Bs J W hc' h0).mono fun e W' ⟨he, hj⟩ => ⟨he, .inl ⟨_, rfl, hj⟩⟩
 ·refine (values1_in F n h7 hro hn l Bs n₀ b off zs.length cap zs hreach hb J Jx hY W hc' hcs h0).mono ?_
  rintro e W' ⟨he, ⟨ys, rfl, hj⟩ | ⟨pre, ⟨k, hk, rfl⟩, hj⟩⟩
  ·exact ⟨he, .inl ⟨_, upto_all zs, hj⟩⟩
  ·exact ⟨he, .inr ⟨_, by rw [upto_take zs hk]; exact List.take_prefix _ _, hj⟩⟩
theorem infoP : (Tryz.prog.info? 104).map (fun i => (i.zero, i.size, i.bytes)) = some (some (.pointer none), 1, 8) := by kernel_rfl
set_option maxRecDepth 100000 in
set_option maxHeartbeats 2000000 in
theorem appendSeq_in (F : Fence) (n : Nat) (h4 : F.fn 93) (h7 : F.fn 92) (hro : F.round = none) (hn : 3 ≤ n) (Bs n₀ : Nat) (sv : Value) (zs : List Nat) (hlen : zs.length ≤ 900000) (w : World) (hBs : Bs < w.heap.size) (hn₀ : n₀ ≤ w.heap.size)
  (hc : w.cell? ⟨Bs, 0, none⟩ = some sv) (hI : Ptrs n₀ w sv zs) :
  CallsIn F n Tryz.prog 93 #[.slice none 0 0, .func (.func 92) #[] #[.pointer (some ⟨Bs, 0, none⟩)]] w fun e W' => ∃ v, e = .returned v ∧ W'.ownsRow w.heap.size 104 1 v zs.length (zs.map ptrV) ∧ (v = .slice none 0 0 ↔ zs = []) ∧ Below w.heap.size w W' := by
 have h1 : 1 ≤ n := by omega
 obtain ⟨i0, hi, hz0, hz1, hz2⟩ := info_parts infoP
 refine callsIn_of_wp_marks Tryz.func93 rfl h4 ?_ hro
 simp only [Tryz.ntmps93, List.size_toArray, List.length_cons, List.length_nil, Nat.reduceAdd, Nat.reduceSub, Array.replicate_succ, Array.replicate_zero, List.push_toArray, List.append_toArray, List.nil_append, List.cons_append]
 gi_wp2
 have bO := Boxed.new w 101 (.slice none 0 0)
 have hB0 : Below w.heap.size w (w.alloc (.cells #[.slice none 0 0] 101)) := (Below.refl _ w).alloc (Nat.le_refl _) _
 refine wpIn_rangeFunc_ownG hro h1 (gf := 92) (lb := #[.pointer (some ⟨Bs, 0, none⟩)]) rfl h7 (enters_of Tryz.func92 (by kernel_rfl) rfl)
  (values_stops F (n - 1) h7 hro (by omega) Bs w.heap.size sv zs (by omega) _ (by simp; omega) (by simp) ((hB0.cell (p := ⟨Bs, 0, none⟩) hBs).trans hc) ((show Ptrs w.heap.size w sv zs from hI.imp _root_.id (fun ⟨b, off, cap, e, hb, h⟩ => ⟨b, off, cap, e, Nat.lt_of_lt_of_le hb hn₀, h⟩)).below hB0)) belowK_t (belowK_b (by simp)) (Below.refl _ _) (fun _ => rfl)
  (fun pre W => (∃ v, Boxed W w.heap.size 101 v ∧ W.ownsRow w.heap.size 104 1 v pre.length (pre.map ptrV) ∧ (v = .slice none 0 0 ↔ pre = [])) ∧ Below w.heap.size w W)
  (fun _ _ _ => False)
  (OwnFrom.and (Own.from (holdsRow_own w.heap.size w.heap.size 101 104 1 (fun pre => pre.length) (fun pre => pre.map ptrV) (fun pre v => v = .slice none 0 0 ↔ pre = [])) _) (ownFrom_below (Nat.le_refl _) (by simp)))
  (fun _ _ _ _ _ hs _ _ => hs)
  ⟨⟨_, bO, World.ownsRow_nil _ _ _ _, by simp⟩, hB0⟩
  (fun x => { tmps := #[.slice none 0 0, .func (.func 92) #[] #[.pointer (some ⟨Bs, 0, none⟩)], .pointer (some ⟨w.heap.size, 0, none⟩), undef, .slice none 0 0, ptrV x, .func (.func 92) #[] #[.pointer (some ⟨Bs, 0, none⟩)], ptrV x, undef, undef, undef, undef, undef], defers := [] }) ?assign ?body ?done ?stop
 case assign =>
  intro l x W K hK
  gi_wp2
  exact hK
 case body =>
  rintro l pre x W ⟨⟨v, hv, hrow, hnil⟩, hB⟩ hlt
  have hc := hv.cell
  gi_wp2_with (gi_at_builtin; refine wpListIn_append_own _ rfl _ _ 101 rfl w.heap.size 104 i0 (.pointer none) 1 8 Tryz.underlying101 hi hz0 hz1 hz2 rfl (by decide) _ _ _ rfl (hrow.alloc _) ⟨W.heap.size, 0, none⟩ 1 1 [ptrV x] rfl rfl (cell_one_new _ _ _) (by simp [Value.oneCell']) (by simp [maxLen]; omega) (by omega) (by have := hB.size; simp; omega) ?_; intro v' w1 hown' hgrow _; obtain ⟨g', cap', rfl⟩ := ownsRow_succ hown'; obtain ⟨hv1, hv2, hr2, hk2, hb2⟩ := hv.appended (by decide) hrow hB.size (Nat.le_refl _) hown' hgrow; have hc1 := hv1.cell; have hf1 := hv1.frozen)
  exact ⟨hk2.from _, hb2, ⟨_, hv2, by simpa using hr2, by simp⟩, hB.trans hb2⟩
 case done =>
  rintro D ys W hD rfl ⟨⟨v, hv, hrow, hnil⟩, hB⟩ hK
  have hc := hv.cell
  gi_wp2
  refine ⟨by simp, .inl ⟨_, _, rfl, run_takeDeferred hK, ?_⟩⟩
  exact ⟨_, results_tmp rfl _ _ _, v, rfl, ownsRow_putObj hrow _ hK rfl, hnil, hB.trans (belowK_b (w := w) (Nat.le_refl _) W D _ _ (by simp at hD; omega) hK rfl rfl)⟩
 case stop =>
  rintro D c pre W _ _ h _
  exact h.elim
theorem collect_c (Bs n₀ : Nat) (sv : Value) (zs : List Nat) (hlen : zs.length ≤ 900000) (w : World) (hBs : Bs < w.heap.size) (hn₀ : n₀ ≤ w.heap.size) (hc : w.cell? ⟨Bs, 0, none⟩ = some sv) (hI : Ptrs n₀ w sv zs) :
  Calls Tryz.prog 90 #[.func (.func 92) #[] #[.pointer (some ⟨Bs, 0, none⟩)]] w fun e W' => ∃ v, e = .returned v ∧ W'.ownsRow w.heap.size 104 1 v zs.length (zs.map ptrV) ∧ (v = .slice none 0 0 ↔ zs = []) ∧ Below w.heap.size w W' := by
 have hcall := callsIn_wide.1 (appendSeq_in Fence.wide 3 trivial trivial rfl (by omega) Bs n₀ sv zs hlen w hBs hn₀ hc hI)
 clear hc hI
 go_enter Tryz.func90, Tryz.ntmps90
 go_wp2_with fail
 go_at_call 93
 refine hcall.mono ?_
 rintro e w2 ⟨v, rfl, h1, h2, h3⟩
 have HX := Lib.hid (And.intro h1 (And.intro h2 h3))
 clear h1 h2 h3 hcall
 go_wp2_with fail
 go_ret
 exact ⟨v, rfl, HX.out⟩
end Go.Proofs.YtdeghpmlhcaedaaGreatDoor
namespace Go.Proofs.YtdeghpmlhcaedaaGreatDoor
open Go.RowKit
set_option maxRecDepth 40000 in
theorem len64_a (w : World) : Calls Tryz.prog 105 #[.int .u64 0] w fun e w' => (∃ z : Int, e = .returned (.int .i64 z)) ∧ w' = w := by
 go_enter Tryz.func105, Tryz.ntmps105
 go_wp2_with fail
 go_ret
 exact ⟨⟨_, rfl⟩, rfl⟩
set_option maxRecDepth 40000 in
theorem lenB_a (w : World) : Calls Tryz.prog 95 #[.int .u64 0] w fun e w' => (∃ z : Int, e = .returned (.int .i64 z)) ∧ w' = w := by
 go_enter Tryz.func95, Tryz.ntmps95
 go_wp2_with fail
 go_at_call 105
 refine (len64_a w).mono ?_
 rintro e w2 ⟨⟨z, rfl⟩, rfl⟩
 go_wp2_with fail
 go_ret
 exact ⟨⟨_, rfl⟩, rfl⟩
set_option maxRecDepth 40000 in
theorem len64_b (w : World) : Calls Tryz.prog 105 #[.int .u64 1] w fun e w' => (∃ z : Int, e = .returned (.int .i64 z)) ∧ w' = w := by
 go_enter Tryz.func105, Tryz.ntmps105
 go_wp2_with fail
 go_ret
 exact ⟨⟨_, rfl⟩, rfl⟩
set_option maxRecDepth 40000 in
theorem lenB_b (w : World) : Calls Tryz.prog 95 #[.int .u64 1] w fun e w' => (∃ z : Int, e = .returned (.int .i64 z)) ∧ w' = w := by
 go_enter Tryz.func95, Tryz.ntmps95
 go_wp2_with fail
 go_at_call 105
 refine (len64_b w).mono ?_
 rintro e w2 ⟨⟨z, rfl⟩, rfl⟩
 go_wp2_with fail
 go_ret
 exact ⟨⟨_, rfl⟩, rfl⟩
theorem lenB_c (n : Nat) (hn : n ≤ 1) (w : World) : Calls Tryz.prog 95 #[.int .u64 ((n : Nat) : Int)] w fun e w' => (∃ z : Int, e = .returned (.int .i64 z)) ∧ w' = w := by
 rcases (by omega : n = 0 ∨ n = 1) with rfl | rfl
 ·exact lenB_a w
 ·exact lenB_b w
theorem ins_1 (s c : Value) (n : Nat) (hn : n ≤ 1) (z : Value) (w : World) : Calls Tryz.prog 96 #[s, .int .i64 0, .int .i64 (n : Int), c] w fun e w' => e = .returned (.tuple #[]) ∧ w' = w := by
 go_enter Tryz.func96, Tryz.ntmps96
 go_wp2_with fail
 go_loopw [8] (fun s8 ws => s8 = .int .i64 1 ∧ ws = w) (fun _ _ => 0)
 case atStart => exact ⟨rfl, rfl⟩
 case round =>
  obtain ⟨rfl, rfl⟩ := hrel
  have hd : decide ((1 : Int) < (n : Int)) = false := decide_eq_false (by omega)
  go_wp2_with fail
  go_end0
  exact ⟨rfl, rfl⟩
theorem pdq_1 (s c : Value) (n : Nat) (hn : n ≤ 1) (z : Value) (w : World) : Calls Tryz.prog 94 #[s, .int .i64 0, .int .i64 (n : Int), z, c] w fun e w' => e = .returned (.tuple #[]) ∧ w' = w := by
 go_enter Tryz.func94, Tryz.ntmps94
 go_wp2_with fail
 go_loopw [1, 2] (fun s1 s2 ws => s1 = .int .i64 0 ∧ s2 = .int .i64 (n : Int) ∧ ws = w) (fun _ _ _ => 0)
 case atStart => exact ⟨rfl, rfl, rfl⟩
 case round =>
  obtain ⟨rfl, rfl, rfl⟩ := hrel
  have hw : IntKind.i64.wrap ((n : Int) - 0) = (n : Int) := by
   rw [IntKind.wrap_i64]
   omega
  have hd : decide ((n : Int) ≤ 12) = true := decide_eq_true (by omega)
  go_wp2_with fail
  go_at_call 96
  refine (ins_1 _ _ n hn z _).mono ?_
  rintro e w2 ⟨rfl, rfl⟩
  go_wp2_with fail
  exact bodyPost_ret (v := .tuple #[]) (results_none rfl _ _ _) rfl ⟨rfl, rfl⟩
theorem sort_1 (s c : Value) (a : Option Addr) (n cp : Nat) (hn : n ≤ 1) (w : World) : Calls Tryz.prog 91 #[.slice a n cp, c] w fun e w' => e = .returned (.tuple #[]) ∧ w' = w := by
 go_enter Tryz.func91, Tryz.ntmps91
 have hw : IntKind.u64.wrap (n : Int) = (n : Int) := by
  rw [IntKind.wrap_u64]
  omega
 go_wp2_with fail
 go_at_call 95
 refine (lenB_c n hn _).mono ?_
 rintro e w2 ⟨⟨z, rfl⟩, rfl⟩
 go_wp2_with fail
 go_at_call 94
 refine (pdq_1 _ _ n hn (.int .i64 z) _).mono ?_
 rintro e w2 ⟨rfl, rfl⟩
 go_wp2_with fail
 go_end0
 exact ⟨rfl, rfl⟩
end Go.Proofs.YtdeghpmlhcaedaaGreatDoor
namespace Go.Proofs
open Go.Shelf
def Tryz.sortN_ren : Go.Shelf.Ren := ⟨fun | 6 => 91 | 15 => 95 | 14 => 94 | 28 => 104 | 29 => 105 | 20 => 96 | 21 => 97 | 22 => 98 | 23 => 99 | 24 => 100 | 25 => 101 | 26 => 102 | 27 => 103 | 46 => 106 | 47 => 107 | 48 => 108 | 49 => 109 | 50 => 110 | 57 => 111 | n => n, fun | 22 => 101 | 24 => 104 | 25 => 151 | 3 => 3 | 39 => 153 | 0 => 0 | 53 => 176 | 55 => 32 | 4 => 4 | 46 => 170 | 45 => 169 | 50 => 75 | 5 => 5 | 9 => 9 | 66 => 177 | 70 => 181 | 76 => 183 | 77 => 184 | n => n, fun | n => n⟩
theorem Tryz.sortN : Go.Proofs.SlLaysF.n6 Tryz.prog Tryz.sortN_ren := {
 mixed := by kernel_rfl
 f6 := ⟨Tryz.f91.name, by decide, Tryz.func91.trans (congrArg some (by kernel_rfl))⟩
 f14 := ⟨Tryz.f94.name, by decide, Tryz.func94.trans (congrArg some (by kernel_rfl))⟩
 f15 := Tryz.func95.trans (congrArg some (by kernel_rfl))
 f20 := ⟨Tryz.f96.name, by decide, Tryz.func96.trans (congrArg some (by kernel_rfl))⟩
 f21 := ⟨Tryz.f97.name, by decide, Tryz.func97.trans (congrArg some (by kernel_rfl))⟩
 f22 := ⟨Tryz.f98.name, by decide, Tryz.func98.trans (congrArg some (by kernel_rfl))⟩
 f23 := ⟨Tryz.f99.name, by decide, Tryz.func99.trans (congrArg some (by kernel_rfl))⟩
 f24 := ⟨Tryz.f100.name, by decide, Tryz.func100.trans (congrArg some (by kernel_rfl))⟩
 f25 := ⟨Tryz.f101.name, by decide, Tryz.func101.trans (congrArg some (by kernel_rfl))⟩
 f26 := ⟨Tryz.f102.name, by decide, Tryz.func102.trans (congrArg some (by kernel_rfl))⟩
 f27 := ⟨Tryz.f103.name, by decide, Tryz.func103.trans (congrArg some (by kernel_rfl))⟩
 f28 := Tryz.func104.trans (congrArg some (by kernel_rfl))
 f29 := Tryz.func105.trans (congrArg some (by kernel_rfl))
 f46 := ⟨Tryz.f106.name, by decide, Tryz.func106.trans (congrArg some (by kernel_rfl))⟩
 f47 := Tryz.func107.trans (congrArg some (by kernel_rfl))
 f48 := Tryz.func108.trans (congrArg some (by kernel_rfl))
 f49 := ⟨Tryz.f109.name, by decide, Tryz.func109.trans (congrArg some (by kernel_rfl))⟩
 f50 := ⟨Tryz.f110.name, by decide, Tryz.func110.trans (congrArg some (by kernel_rfl))⟩
 f57 := ⟨Tryz.f111.name, by decide, Tryz.func111.trans (congrArg some (by kernel_rfl))⟩
 t0 := Tryz.underlying0
 a0 := Tryz.isAgg0
 z0 := Tryz.sizeOf0
 v0 := Tryz.zeroValue0
 t3 := Tryz.underlying3
 a3 := Tryz.isAgg3
 z3 := Tryz.sizeOf3
 v3 := Tryz.zeroValue3
 t4 := Tryz.underlying4
 a4 := Tryz.isAgg4
 z4 := Tryz.sizeOf4
 v4 := Tryz.zeroValue4
 t5 := Tryz.underlying5
 a5 := Tryz.isAgg5
 z5 := Tryz.sizeOf5
 v5 := Tryz.zeroValue5
 t9 := Tryz.underlying9
 a9 := Tryz.isAgg9
 z9 := Tryz.sizeOf9
 v9 := Tryz.zeroValue9
 t22 := Tryz.underlying101
 a22 := Tryz.isAgg101
 z22 := Tryz.sizeOf101
 v22 := Tryz.zeroValue101
 a24 := Tryz.isAgg104
 z24 := Tryz.sizeOf104
 t25 := Tryz.underlying151
 a25 := Tryz.isAgg151
 z25 := Tryz.sizeOf151
 v25 := Tryz.zeroValue151
 t39 := Tryz.underlying153
 a39 := Tryz.isAgg153
 z39 := Tryz.sizeOf153
 v39 := Tryz.zeroValue153
 t45 := Tryz.underlying169
 a45 := Tryz.isAgg169
 z45 := Tryz.sizeOf169
 v45 := Tryz.zeroValue169
 t46 := Tryz.underlying170
 a46 := Tryz.isAgg170
 z46 := Tryz.sizeOf170
 v46 := Tryz.zeroValue170
 t50 := Tryz.underlying75
 a50 := Tryz.isAgg75
 z50 := Tryz.sizeOf75
 v50 := Tryz.zeroValue75
 t53 := Tryz.underlying176
 a53 := Tryz.isAgg176
 z53 := Tryz.sizeOf176
 v53 := Tryz.zeroValue176
 t55 := Tryz.underlying32
 a55 := Tryz.isAgg32
 z55 := Tryz.sizeOf32
 v55 := Tryz.zeroValue32
 t66 := Tryz.underlying177
 a66 := Tryz.isAgg177
 z66 := Tryz.sizeOf177
 v66 := Tryz.zeroValue177
 t70 := Tryz.underlying181
 a70 := Tryz.isAgg181
 z70 := Tryz.sizeOf181
 v70 := Tryz.zeroValue181
 t76 := Tryz.underlying183
 a76 := Tryz.isAgg183
 z76 := Tryz.sizeOf183
 v76 := Tryz.zeroValue183
 t77 := Tryz.underlying184
 a77 := Tryz.isAgg184
 z77 := Tryz.sizeOf184
 v77 := Tryz.zeroValue184 }
end Go.Proofs
namespace Go.Proofs.YtdeghpmlhcaedaaGreatDoor
open Go.RowKit Go.Sort Go.Shelf
theorem sortWorld_heap {α : Type} [Inhabited α] (enc : α → Value) {w : World} {g n : Nat} {d : Array α} {os : Array Obj} {cur : Array Value} {T : TypeId} {fr : Nat × Nat} (hg : w.heap[g]? = some (.cells cur T fr)) :
  (sortWorld enc w g 0 n d os).heap[g]? = some (.cells (putCells enc 0 d cur) T fr) ∧ Mod (fun i => i = g) w (sortWorld enc w g 0 n d os) := by
 have hlt := lt_size hg
 have hheap : (sortWorld enc w g 0 n d os).heap = w.heap.modify g (onCells (putCells enc 0 d)) ++ os := rfl
 refine ⟨?_, rfl, rfl, rfl, ?_, fun i hi hne => ?_⟩
 ·rw [hheap, Array.getElem?_append_left (by simpa using hlt), Array.getElem?_modify, if_pos rfl, hg]
  rfl
 ·rw [hheap]
  simp
 ·rw [hheap, Array.getElem?_append_left (by simpa using hi), Array.getElem?_modify, if_neg (fun e => hne e.symm)]
def Falling (nd : Nat → Nd) (ys : List Nat) : Prop := ∀ (i j a b : Nat), i < j → ys[i]? = some a → ys[j]? = some b → nlt (nd b) (nd a) = false
theorem nlt_trans {a b c : Nd} (h1 : nlt a b = true) (h2 : nlt b c = true) : nlt a c = true := by
 cases h : nlt a c
 ·exact absurd h1 (by rw [nlt_negtrans h (nlt_asymm h2)]; decide)
 ·rfl
theorem ncmp_lt (x y : Nd) : decide (ncmp x y < 0) = nlt x y := by
 unfold ncmp
 cases nlt x y <;> rfl
theorem swoN {α : Type} (f : α → Nd) : SWO (ltOf (fun x y : α => ncmp (f x) (f y))) where
 irrefl x := by show decide (ncmp _ _ < 0) = false; rw [ncmp_lt]; exact nlt_irrefl _
 trans x y z h1 h2 := by
  change decide (ncmp _ _ < 0) = true at h1 h2 ⊢
  rw [ncmp_lt] at *
  exact nlt_trans h1 h2
 ntrans x y z h1 h2 := by
  change decide (ncmp _ _ < 0) = false at h1 h2 ⊢
  rw [ncmp_lt] at *
  exact nlt_negtrans h1 h2
theorem sortPtrs {w : World} {base : Nat} {v : Value} {zs : List Nat} {nd : Nat → Nd} (hown : SlOwn pc 1 104 w base v zs) (hz : zs.length ≤ 900000) (hd : ∀ b ∈ zs, ∃ i o, w.heap[b]? = some (.cells (ndc false (nd b) i o) 128 (0, 0))) :
  Calls Tryz.prog 91 #[v, .func (.func 74) #[] #[]] w fun e w' => e = .returned (.tuple #[]) ∧ ∃ ys, ys.Perm zs ∧ Falling nd ys ∧ SlOwn pc 1 104 w' base v ys ∧ Mod (fun i => v.ownBlock = some i) w w' := by
 by_cases hL : zs = []
 ·subst hL
  obtain ⟨a, c, rfl, _⟩ := hown.at ptrT
  refine (sort_1 (.bool true) _ a 0 c (by omega) w).mono ?_
  rintro e w' ⟨rfl, rfl⟩
  exact ⟨rfl, [], .refl _, fun i j a b _ h => (by cases h), hown, Mod.refl _ _⟩
 ·obtain ⟨g, cap, cur, rfl, _, kg, hcap, hcs, hcur, hback⟩ := own_row hown hL
  obtain ⟨z0, hz0⟩ := List.exists_mem_of_ne_nil zs hL
  let α := { b : Nat // b ∈ zs }
  haveI : Inhabited α := ⟨⟨z0, hz0⟩⟩
  let enc : α → Value := fun x => ptrV x.1
  let d : Array α := zs.attach.toArray
  have hds : d.size = zs.length := by show zs.attach.toArray.size = _; rw [List.size_toArray, List.length_attach]
  have hdl : ∀ i (hi : i < d.size), (d[i]!).1 = zs[i]'(by omega) := fun i hi => by
   rw [getElem!_pos d i hi]
   show (zs.attach.toArray[i]'(hi)).1 = _
   rw [List.getElem_toArray]
   exact congrArg Subtype.val (List.getElem_attach _)
  have hH : Holds enc w g 0 d := fun j hj => by
   rw [Nat.zero_add, cell_blk, frozen_blk, kg]
   refine ⟨?_, by simp⟩
   show cur[j]? = some (ptrV (d[j]!).1)
   rw [hdl j hj]
   exact hcur j _ (List.getElem?_eq_getElem (by omega))
  have eg : ∀ args w, (callFunc 74 args).run Tryz.prog w = .ok (.enter 74 args) w := enters_of Tryz.func74 (by kernel_rfl) rfl
  have hcall := Any.slices_SortFunc Tryz.sortN enc (fun _ => rfl) (fun x y : α => ncmp (nd x.1) (nd y.1)) (swoN (fun x : α => nd x.1)) 74 #[] g 0 cap d w eg (fun m os dk hs x y => by
   have hm := (sortWorld_heap (d := dk) (n := m) (os := os) enc kg).2
   obtain ⟨i, o, kx⟩ := hd x.1 x.2
   obtain ⟨i', o', ky⟩ := hd y.1 y.2
   exact cmpN_c x.1 y.1 false (nd x.1) (nd y.1) i o i' o' _ (hm.at kx (ne_of_obj kx kg (obj_ty (by decide)))) (hm.at ky (ne_of_obj ky kg (obj_ty (by decide))))) hH (lt_size kg) (by omega)
  rw [hds] at hcall
  refine Calls.mono hcall ?_
  rintro e w' ⟨rfl, d', n, os, hperm, hsort, rfl⟩
  have hsz : d'.size = zs.length := hperm.1.trans hds
  obtain ⟨k1, m1⟩ := sortWorld_heap (d := d') (n := n) (os := os) enc kg
  have hpl : d'.toList.Perm zs.attach := by
   have h := hperm.2.2
   have e1 : d'.extract 0 zs.length = d' := by rw [← hsz]; simp
   have e2 : d.extract 0 zs.length = d := by rw [← hds]; simp
   rw [e1, e2] at h
   simpa [d] using h
  have hys : (d'.toList.map Subtype.val).Perm zs := by
   have := hpl.map Subtype.val
   rwa [List.attach_map_subtype_val] at this
  have hget : ∀ i a, (d'.toList.map Subtype.val)[i]? = some a → i < d'.size ∧ (d'[i]!).1 = a := fun i a h => by
   have hi : i < d'.size := by have := (List.getElem?_eq_some_iff.1 h).1; simpa using this
   refine ⟨hi, ?_⟩
   rw [getElem!_pos d' i hi]
   rw [List.getElem?_map] at h
   simp [hi] at h
   exact h
  refine ⟨rfl, d'.toList.map Subtype.val, hys, fun i j a b hij ha hb => ?_, hback _ _ _ k1 (by simp [putCells]) (by simp [hsz]) (fun i b h => ?_), m1.mono (fun i _ e => by rw [e]; rfl)⟩
  ·obtain ⟨hi, rfl⟩ := hget i a ha
   obtain ⟨hj, rfl⟩ := hget j b hb
   have h1 := hsort i j (Nat.zero_le _) hij (by omega)
   change decide (ncmp _ _ < 0) = false at h1
   rwa [ncmp_lt] at h1
  ·obtain ⟨hi, rfl⟩ := hget i b h
   have hic : i < cur.size := by omega
   simp only [putCells, Array.getElem?_mapIdx, Array.getElem?_eq_getElem hic, Option.map_some, Nat.zero_le, Nat.zero_add, true_and, Nat.sub_zero, if_pos hi]
   rfl
set_option maxHeartbeats 1000000 in
theorem sortedFunc_c (Bs : Nat) (sv : Value) (zs : List Nat) (nd : Nat → Nd) (hlen : zs.length ≤ 900000) (w : World) (hBs : Bs < w.heap.size) (hc : w.cell? ⟨Bs, 0, none⟩ = some sv) (hI : Ptrs w.heap.size w sv zs) (hd : ∀ b ∈ zs, ∃ i o, w.heap[b]? = some (.cells (ndc false (nd b) i o) 128 (0, 0))) :
  Calls Tryz.prog 72 #[.func (.func 92) #[] #[.pointer (some ⟨Bs, 0, none⟩)], .func (.func 74) #[] #[]] w fun e w' =>
   ∃ v ys, e = .returned v ∧ ys.Perm zs ∧ Falling nd ys ∧ SlOwn pc 1 104 w' w.heap.size v ys ∧ Mod (fun _ => False) w w' := by
 have hcol := collect_c Bs w.heap.size sv zs hlen w hBs (Nat.le_refl _) hc hI
 have HD := Lib.hid hd
 clear hd hc hI
 go_enter Tryz.func72, Tryz.ntmps72
 go_wp2_with fail
 go_at_call 90
 refine hcol.mono ?_
 rintro e w2 ⟨v, rfl, h1, h2, h3⟩
 have hO : SlOwn pc 1 104 w2 w.heap.size v zs := by
  unfold SlOwn
  rw [cellsOf_pc]
  exact h1
 have HX := Lib.hid (And.intro hO h3)
 clear h1 h2 h3 hcol hO
 obtain ⟨a, c, rfl, _⟩ := HX.out.1.at ptrT
 go_wp2_with fail
 go_at_call 91
 refine (sortPtrs HX.out.1 hlen (fun b hb => by
  obtain ⟨i, o, k⟩ := HD.out b hb
  exact ⟨i, o, (HX.out.2.block b (lt_size k)).trans k⟩)).mono ?_
 rintro e w3 ⟨rfl, ys, h1, h2, h3, h4⟩
 have HY := Lib.hid (And.intro h1 (And.intro h2 (And.intro h3 h4)))
 have hl := h1.length_eq
 clear h1 h2 h3 h4
 go_wp2_with fail
 go_ret
 obtain ⟨h1, h2, h3, h4⟩ := HY.out
 refine ⟨_, ys, rfl, h1, h2, h3, (Mod.of_below HX.out.2 _).then h4 (fun i hi e => ?_)⟩
 have := (HX.out.1.lt _ e).1
 omega
end Go.Proofs.YtdeghpmlhcaedaaGreatDoor
