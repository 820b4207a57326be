/- The walks of the document's own store of accounts: a list of holdings. -/
import Derived.Test.YtknmiojegnbakaaAgainL
import Derived.Test.YtknmiojegnbakaaLast
import Derived.Test.YtknmiojegnbakaaTg
namespace Go.Proofs.Ytknmiojegnbakaa
open Go.RowKit
open Go.ChangeMaps (setBlock)
set_option linter.unusedSimpArgs false
set_option linter.unusedVariables false
attribute [local go_sem ↓] wlKey ldKey stKey wlAcct ldAcct stAcct wlHold ldHold stHold eqKey1 eqAcct eqHold
attribute [local go_sem] eqMap neMap av_size av_c av_s av_c' av_s' av_o av_all av_one hd_size hd_key hd_acct hd_all hd_one zKey_size zAcct_size zHold_size cell_blk frozen_blk kc_ext one_int one_bool one_ptr one_slice one_map kc_one kc_one0 kc_size Value.cells
/-- The document's store at r holds L. -/
def RAt (w : World) (r : Nat) (L : List Hold) : Prop := ∃ v, w.heap[r]? = some (.cells #[v] 50 (0, 0)) ∧ SlOwn hd 66 38 w 0 v L
theorem own_cells {w : World} {base : Nat} {v : Value} {l : List Hold} {k : Nat} (h : SlOwn hd 66 38 w base v l) (hk : v.ownBlock = some k) : ∃ cur, w.heap[k]? = some (.cells cur 38 (0, 0)) := by
  rcases h.2 with ⟨rfl, _⟩ | ⟨g, cap, cur, rfl, _, hg, _⟩
  · cases hk
  · cases hk
    exact ⟨cur, hg⟩
/-- No block of holdings is in S. -/
def NoHold (w : World) (S : Nat → Prop) : Prop := ∀ i, S i → ∀ cur, w.heap[i]? ≠ some (.cells cur 38 (0, 0))
theorem RAt.mod {w w' : World} {r : Nat} {L : List Hold} {S : Nat → Prop} (h : RAt w r L) (hm : Mod S w w') (hr : ¬ S r) (hS : NoHold w S) : RAt w' r L := by
  obtain ⟨v, k, hO⟩ := h
  exact ⟨v, hm.at k hr, hO.mod hm (fun b hb hs => by
    obtain ⟨cur, hc⟩ := own_cells hO hb
    exact hS b hs cur hc)⟩
theorem RAt.mod0 {w w' : World} {r : Nat} {L : List Hold} (h : RAt w r L) (hm : Mod (fun _ => False) w w') : RAt w' r L := h.mod hm (fun h => h) (fun _ h => h.elim)
theorem RAt.lt {w : World} {r : Nat} {L : List Hold} (h : RAt w r L) : r < w.heap.size := by
  obtain ⟨v, k, _⟩ := h
  exact lt_size k
/-- As a slice: where it lies. -/
theorem RAt.sl {w : World} {r : Nat} {L : List Hold} (h : RAt w r L) : ∃ a c, w.heap[r]? = some (.cells #[.slice a L.length c] 50 (0, 0)) ∧ SlAt hd 66 w a L := by
  obtain ⟨v, k, hO⟩ := h
  obtain ⟨a, c, rfl, hs, _⟩ := hO.at holdT
  exact ⟨a, c, k, hs⟩
theorem SlOwn.base0 {w : World} {base : Nat} {v : Value} {l : List Hold} (h : SlOwn hd 66 38 w base v l) : SlOwn hd 66 38 w 0 v l := by
  refine ⟨h.1, ?_⟩
  rcases h.2 with h | ⟨g, cap, cur, e, hb, r⟩
  · exact .inl h
  · exact .inr ⟨g, cap, cur, e, Nat.zero_le _, r⟩
/-- What Put makes of the list. -/
def rputL (k : Key) (a : Acct) : Bool → List Hold → List Hold
  | d, [] => if d then [] else [⟨k, a⟩]
  | d, h :: r => (if !d && klt k h.k then [(⟨k, a⟩ : Hold)] else []) ++ ((if h.k = k then [] else [h]) ++ rputL k a (d || klt k h.k) r)
set_option maxRecDepth 20000 in
set_option maxHeartbeats 1600000 in
theorem rget_c (r : Nat) (L : List Hold) (k : Key) (w : World) (h : RAt w r L) (hL : L.length ≤ 900000) : Calls Try.prog 18 #[.pointer (some ⟨r, 0, none⟩), .agg (kc k)] w fun e w' => e = .returned (.agg (av (getA (L.map ofH) k))) ∧ Mod (fun _ => False) w w' := by
  obtain ⟨a, c, kr, hs⟩ := h.sl
  clear h
  go_enter Try.func18, Try.ntmps18
  go_upto_region 0 with fail
  have Lkr := lt_size kr
  refine wp_pass0 (C := fun _ _ _ => False) (κ := fun i => [3, 3].getD i 0) [0, 1] (by kernel_rfl) (by kernel_rfl) (fun _ _ d _ _ h => by cases d <;> exact h) ?_
  (refine TD.box (v := ?v1) (by simp only [List.getElem?_toArray, List.getElem?_cons_succ, List.getElem?_cons_zero]; rfl) rfl ?hw1 rfl rfl ?hx1 (fun p3 hp3 => ?hn1); (case hw1 => rfl); (case hx1 => (simp only [Act.eval, Array.getD_eq_getD_getElem?, List.getElem?_toArray, List.getElem?_cons_succ, List.getElem?_cons_zero, Option.getD_some]; (try rfl))); (try simp only [Act.put, List.setIfInBounds_toArray, List.set_cons_zero, List.set_cons_succ]))
  (refine TD.allocB (by simp only [List.getElem?_toArray, List.getElem?_cons_succ, List.getElem?_cons_zero]; rfl) rfl ?hw2 rfl rfl alAcct (fun p4 hp4 => ?hn2); (case hw2 => rfl); (try simp only [Act.put, List.setIfInBounds_toArray, List.set_cons_zero, List.set_cons_succ]))
  obtain ⟨ne_p4_p3, hp4⟩ := Bx.set_none hp4
  refine TD.nil (fun w1 hr => ?_)
  have kr := hr.mod.at kr (fun h => h)
  have kp3 := hr.box p3 _ (by first | exact Bx.set_same _ _ _ | (simp only [Bx.set_ne _ (Ne.symm ne_p4_p3), Bx.set_ne _ ne_p4_p3, Bx.set_same]; rfl)); dsimp only [Value.cells] at kp3; obtain ⟨gp3, kp3⟩ := kp3
  have kp4 := hr.box p4 _ (by first | exact Bx.set_same _ _ _ | (simp only [Bx.set_ne _ (Ne.symm ne_p4_p3), Bx.set_ne _ ne_p4_p3, Bx.set_same]; rfl)); dsimp only [Value.cells] at kp4; obtain ⟨gp4, kp4⟩ := kp4
  have m1 := hr.mod
  have hs1 := hs.mod0 hr.mod
  have HS0 := Lib.hid hs
  clear hs
  have hb0 := build0
  go_wp2_with fail
  go_loopw [5] (fun s5 ws => ∃ i : Nat, i ≤ L.length ∧ s5 = .int .i64 (i : Int) ∧ Hid (getA (L.map ofH) k = getA ((L.drop i).map ofH) k) ∧ Mod (fun _ => False) w1 ws) (fun s5 _ => L.length - (intOf s5).toNat)
  case atStart => exact ⟨0, by omega, rfl, Lib.hid (by simp), Mod.refl _ _⟩
  case round =>
    obtain ⟨i, hi, rfl, HG, hm⟩ := hrel
    have kr := hm.at0 kr
    have kp3 := hm.at0 kp3
    have kp4 := hm.at0 kp4
    by_cases hlt : i < L.length
    · obtain ⟨x, hx⟩ : ∃ x, L[i]? = some x := ⟨_, List.getElem?_eq_getElem hlt⟩
      obtain ⟨g, o, C, U, fr, rfl, kl, he, hle⟩ := (hs1.mod0 hm).block hx
      obtain ⟨e1, e2⟩ := hd_part he
      have d1 : o + i * 66 + 32 ≤ C.size := by omega
      have d2 : o + i * 66 + 32 + 34 ≤ C.size := by omega
      have HX := Lib.hid hx
      have HS1 := Lib.hid hs1
      have hg4 : g ≠ p4 := by
        obtain ⟨g', o', C', U', fr', ha, kl', _⟩ := HS0.out.block hx
        cases ha
        have := lt_size kl'
        omega
      clear he hle hx hs1
      obtain ⟨xk, xa⟩ := x
      dsimp only at e1 e2
      by_cases hxk : xk = k
      · have hde := decide_eq_true hxk
        have HR : Hid (getA (L.map ofH) k = xa) := Lib.hid (by
          rw [HG.out, drop_cons HX.out]
          unfold getA
          simp [ofH, lkp, hxk])
        clear hxk
        go_upto_region 4 with fail
        have Lkl := lt_size kl
        have Lkr := lt_size kr
        have Lkp3 := lt_size kp3
        have Lkp4 := lt_size kp4
        refine wp_pass (C := fun _ _ _ => False) (κ := fun i => [0, 0, 0, 1, 0, 0, 0, 1, 1, 0].getD i 0) [0, 1, 2, 3, 4, 5, 6, 7, 8, 9] (by kernel_rfl) (by kernel_rfl) (fun _ _ d _ _ h => by cases d <;> exact h) ?_
        (refine TD.val0 (v := ?v3) (by simp only [List.getElem?_toArray, List.getElem?_cons_succ, List.getElem?_cons_zero]; rfl) rfl ?hw3 (fun w1 => ?hy3) ?hn3; (case hw3 => rfl); (case hy3 => (go_simp; (try with_reducible rfl))); (try simp only [Act.put, List.setIfInBounds_toArray, List.set_cons_zero, List.set_cons_succ]))
        (refine TD.val0 (v := ?v4) (by simp only [List.getElem?_toArray, List.getElem?_cons_succ, List.getElem?_cons_zero]; rfl) rfl ?hw4 (fun w1 => ?hy4) ?hn4; (case hw4 => rfl); (case hy4 => (go_simp; (try with_reducible rfl))); (try simp only [Act.put, List.setIfInBounds_toArray, List.set_cons_zero, List.set_cons_succ]))
        (refine TD.val0 (v := ?v5) (by simp only [List.getElem?_toArray, List.getElem?_cons_succ, List.getElem?_cons_zero]; rfl) rfl ?hw5 (fun w1 => ?hy5) ?hn5; (case hw5 => rfl); (case hy5 => (go_simp; (try with_reducible rfl))); (try simp only [Act.put, List.setIfInBounds_toArray, List.set_cons_zero, List.set_cons_succ]))
        (refine TD.load (v := ?v6) (p := ?p6) (Mod.refl _ _) (by simp only [List.getElem?_toArray, List.getElem?_cons_succ, List.getElem?_cons_zero]; rfl) rfl ?hw6 rfl ?hx6 (fun wq hSq => ?hy6) ?hn6; (case hw6 => rfl); (case hx6 => (simp only [Act.eval, Array.getD_eq_getD_getElem?, List.getElem?_toArray, List.getElem?_cons_succ, List.getElem?_cons_zero, Option.getD_some]; (try rfl))); (case hy6 => (have klq := hSq.at kl (fun h => h); have krq := hSq.at kr (fun h => h); have kp3q := hSq.at kp3 (fun h => h); have kp4q := hSq.at kp4 (fun h => h); go_simp; (try with_reducible rfl))); (try simp only [Act.put, List.setIfInBounds_toArray, List.set_cons_zero, List.set_cons_succ]))
        (refine TD.val0 (v := ?v7) (by simp only [List.getElem?_toArray, List.getElem?_cons_succ, List.getElem?_cons_zero]; rfl) rfl ?hw7 (fun w1 => ?hy7) ?hn7; (case hw7 => rfl); (case hy7 => (go_simp; (try with_reducible rfl))); (try simp only [Act.put, List.setIfInBounds_toArray, List.set_cons_zero, List.set_cons_succ]))
        (refine TD.val0 (v := ?v8) (by simp only [List.getElem?_toArray, List.getElem?_cons_succ, List.getElem?_cons_zero]; rfl) rfl ?hw8 (fun w1 => ?hy8) ?hn8; (case hw8 => rfl); (case hy8 => (go_simp; (try with_reducible rfl))); (try simp only [Act.put, List.setIfInBounds_toArray, List.set_cons_zero, List.set_cons_succ]))
        (refine TD.val0 (v := ?v9) (by simp only [List.getElem?_toArray, List.getElem?_cons_succ, List.getElem?_cons_zero]; rfl) rfl ?hw9 (fun w1 => ?hy9) ?hn9; (case hw9 => rfl); (case hy9 => (go_simp; (try with_reducible rfl))); (try simp only [Act.put, List.setIfInBounds_toArray, List.set_cons_zero, List.set_cons_succ]))
        (refine TD.load (v := ?v10) (p := ?p10) (Mod.refl _ _) (by simp only [List.getElem?_toArray, List.getElem?_cons_succ, List.getElem?_cons_zero]; rfl) rfl ?hw10 rfl ?hx10 (fun wq hSq => ?hy10) ?hn10; (case hw10 => rfl); (case hx10 => (simp only [Act.eval, Array.getD_eq_getD_getElem?, List.getElem?_toArray, List.getElem?_cons_succ, List.getElem?_cons_zero, Option.getD_some]; (try rfl))); (case hy10 => (have klq := hSq.at kl (fun h => h); have krq := hSq.at kr (fun h => h); have kp3q := hSq.at kp3 (fun h => h); have kp4q := hSq.at kp4 (fun h => h); go_simp; (try with_reducible rfl))); (try simp only [Act.put, List.setIfInBounds_toArray, List.set_cons_zero, List.set_cons_succ]))
        (refine TD.load (v := ?v11) (p := ?p11) (Mod.refl _ _) (by simp only [List.getElem?_toArray, List.getElem?_cons_succ, List.getElem?_cons_zero]; rfl) rfl ?hw11 rfl ?hx11 (fun wq hSq => ?hy11) ?hn11; (case hw11 => rfl); (case hx11 => (simp only [Act.eval, Array.getD_eq_getD_getElem?, List.getElem?_toArray, List.getElem?_cons_succ, List.getElem?_cons_zero, Option.getD_some]; (try rfl))); (case hy11 => (have klq := hSq.at kl (fun h => h); have krq := hSq.at kr (fun h => h); have kp3q := hSq.at kp3 (fun h => h); have kp4q := hSq.at kp4 (fun h => h); go_simp; (try with_reducible rfl))); (try simp only [Act.put, List.setIfInBounds_toArray, List.set_cons_zero, List.set_cons_succ]))
        (refine TD.val0 (v := ?v12) (by simp only [List.getElem?_toArray, List.getElem?_cons_succ, List.getElem?_cons_zero]; rfl) rfl ?hw12 (fun w1 => ?hy12) ?hn12; (case hw12 => rfl); (case hy12 => (go_simp; (try with_reducible rfl))); (try simp only [Act.put, List.setIfInBounds_toArray, List.set_cons_zero, List.set_cons_succ]))
        refine TD.nil (fun w2 hr => ?_)
        have kl := hr.mod.at kl (fun h => h)
        have kr := hr.mod.at kr (fun h => h)
        have kp3 := hr.mod.at kp3 (fun h => h)
        have kp4 := hr.mod.at kp4 (fun h => h)
        have m2 := hm.then0 hr.mod
        go_upto_region 5 with fail
        have Lkl := lt_size kl
        have Lkr := lt_size kr
        have Lkp3 := lt_size kp3
        have Lkp4 := lt_size kp4
        refine wp_pass0 (C := fun _ _ _ => False) (κ := fun i => [0, 0, 0, 1, 0, 0, 0, 1, 5].getD i 0) [0, 1, 2, 3, 4, 5, 6, 7, 8] (by kernel_rfl) (by kernel_rfl) (fun _ _ d _ _ h => by cases d <;> exact h) ?_
        (refine TD.val0 (v := ?v13) (by simp only [List.getElem?_toArray, List.getElem?_cons_succ, List.getElem?_cons_zero]; rfl) rfl ?hw13 (fun w1 => ?hy13) ?hn13; (case hw13 => rfl); (case hy13 => (go_simp; (try with_reducible rfl))); (try simp only [Act.put, List.setIfInBounds_toArray, List.set_cons_zero, List.set_cons_succ]))
        (refine TD.val0 (v := ?v14) (by simp only [List.getElem?_toArray, List.getElem?_cons_succ, List.getElem?_cons_zero]; rfl) rfl ?hw14 (fun w1 => ?hy14) ?hn14; (case hw14 => rfl); (case hy14 => (go_simp; (try with_reducible rfl))); (try simp only [Act.put, List.setIfInBounds_toArray, List.set_cons_zero, List.set_cons_succ]))
        (refine TD.val0 (v := ?v15) (by simp only [List.getElem?_toArray, List.getElem?_cons_succ, List.getElem?_cons_zero]; rfl) rfl ?hw15 (fun w1 => ?hy15) ?hn15; (case hw15 => rfl); (case hy15 => (go_simp; (try with_reducible rfl))); (try simp only [Act.put, List.setIfInBounds_toArray, List.set_cons_zero, List.set_cons_succ]))
        (refine TD.load (v := ?v16) (p := ?p16) (Mod.refl _ _) (by simp only [List.getElem?_toArray, List.getElem?_cons_succ, List.getElem?_cons_zero]; rfl) rfl ?hw16 rfl ?hx16 (fun wq hSq => ?hy16) ?hn16; (case hw16 => rfl); (case hx16 => (simp only [Act.eval, Array.getD_eq_getD_getElem?, List.getElem?_toArray, List.getElem?_cons_succ, List.getElem?_cons_zero, Option.getD_some]; (try rfl))); (case hy16 => (have klq := hSq.at kl (fun h => h); have krq := hSq.at kr (fun h => h); have kp3q := hSq.at kp3 (fun h => h); have kp4q := hSq.at kp4 (fun h => h); go_simp; (try with_reducible rfl))); (try simp only [Act.put, List.setIfInBounds_toArray, List.set_cons_zero, List.set_cons_succ]))
        (refine TD.val0 (v := ?v17) (by simp only [List.getElem?_toArray, List.getElem?_cons_succ, List.getElem?_cons_zero]; rfl) rfl ?hw17 (fun w1 => ?hy17) ?hn17; (case hw17 => rfl); (case hy17 => (go_simp; (try with_reducible rfl))); (try simp only [Act.put, List.setIfInBounds_toArray, List.set_cons_zero, List.set_cons_succ]))
        (refine TD.val0 (v := ?v18) (by simp only [List.getElem?_toArray, List.getElem?_cons_succ, List.getElem?_cons_zero]; rfl) rfl ?hw18 (fun w1 => ?hy18) ?hn18; (case hw18 => rfl); (case hy18 => (go_simp; (try with_reducible rfl))); (try simp only [Act.put, List.setIfInBounds_toArray, List.set_cons_zero, List.set_cons_succ]))
        (refine TD.val0 (v := ?v19) (by simp only [List.getElem?_toArray, List.getElem?_cons_succ, List.getElem?_cons_zero]; rfl) rfl ?hw19 (fun w1 => ?hy19) ?hn19; (case hw19 => rfl); (case hy19 => (go_simp; (try with_reducible rfl))); (try simp only [Act.put, List.setIfInBounds_toArray, List.set_cons_zero, List.set_cons_succ]))
        (refine TD.load (v := ?v20) (p := ?p20) (Mod.refl _ _) (by simp only [List.getElem?_toArray, List.getElem?_cons_succ, List.getElem?_cons_zero]; rfl) rfl ?hw20 rfl ?hx20 (fun wq hSq => ?hy20) ?hn20; (case hw20 => rfl); (case hx20 => (simp only [Act.eval, Array.getD_eq_getD_getElem?, List.getElem?_toArray, List.getElem?_cons_succ, List.getElem?_cons_zero, Option.getD_some]; (try rfl))); (case hy20 => (have klq := hSq.at kl (fun h => h); have krq := hSq.at kr (fun h => h); have kp3q := hSq.at kp3 (fun h => h); have kp4q := hSq.at kp4 (fun h => h); go_simp; (try with_reducible rfl))); (try simp only [Act.put, List.setIfInBounds_toArray, List.set_cons_zero, List.set_cons_succ]))
        refine TD.eff (by simp only [List.getElem?_toArray, List.getElem?_cons_succ, List.getElem?_cons_zero]; rfl) rfl (fun wE hr => ?_)
        have kl := hr.mod.at0 kl
        have kr := hr.mod.at0 kr
        have kp3 := hr.mod.at0 kp3
        have kp4 := hr.mod.at0 kp4
        have mE := hr.mod
        (refine eff_store (X := ?X21) (Y := ?Y21) (w' := ?w21) (by simp only [List.getElem?_toArray, List.getElem?_cons_succ, List.getElem?_cons_zero]; rfl) ?hw21 rfl ?hx21 ?hz21 ?hy21 ?hn21; (case hw21 => rfl); (case hx21 => (simp only [Act.eval, Array.getD_eq_getD_getElem?, List.getElem?_toArray, List.getElem?_cons_succ, List.getElem?_cons_zero, Option.getD_some]; (try rfl))); (case hz21 => (simp only [Act.eval, Array.getD_eq_getD_getElem?, List.getElem?_toArray, List.getElem?_cons_succ, List.getElem?_cons_zero, Option.getD_some]; (try rfl))); (case hy21 => (go_simp; (try with_reducible rfl))))
        (first | refine TE.nil_set kp4 (fun w3 kp4 mS => ?_) | refine TE.nil_setCell kp4 (fun w3 kp4 mS => ?_))
        (try simp only [Array.setIfInBounds, List.setIfInBounds_toArray, List.set_cons_zero, List.set_cons_succ] at kp4)
        have kl := mS.at_ne kl (by omega)
        have kr := mS.at_ne kr (by omega)
        have kp3 := mS.at_ne kp3 (by omega)
        have m3 := (((m1.then0 m2).then0 mE).thenB mS (.inl gp4))
        go_wp2_with fail
        exact bodyPost_ret (results_cell1 (v := .agg (av xa)) rfl rfl (by rw [ldAcct]; simp [kp4, av_size, av_all])) rfl ⟨by rw [HR.out], m3⟩
      · have hde := decide_eq_false hxk
        have HR : Hid (getA (L.map ofH) k = getA ((L.drop (i + 1)).map ofH) k) := Lib.hid (by
          rw [HG.out, drop_cons HX.out]
          unfold getA
          simp [ofH, lkp, hxk])
        clear hxk
        go_upto_region 4 with fail
        have Lkl := lt_size kl
        have Lkr := lt_size kr
        have Lkp3 := lt_size kp3
        have Lkp4 := lt_size kp4
        refine wp_pass (C := fun _ _ _ => False) (κ := fun i => [0, 0, 0, 1, 0, 0, 0, 1, 1, 0].getD i 0) [0, 1, 2, 3, 4, 5, 6, 7, 8, 9] (by kernel_rfl) (by kernel_rfl) (fun _ _ d _ _ h => by cases d <;> exact h) ?_
        (refine TD.val0 (v := ?v22) (by simp only [List.getElem?_toArray, List.getElem?_cons_succ, List.getElem?_cons_zero]; rfl) rfl ?hw22 (fun w1 => ?hy22) ?hn22; (case hw22 => rfl); (case hy22 => (go_simp; (try with_reducible rfl))); (try simp only [Act.put, List.setIfInBounds_toArray, List.set_cons_zero, List.set_cons_succ]))
        (refine TD.val0 (v := ?v23) (by simp only [List.getElem?_toArray, List.getElem?_cons_succ, List.getElem?_cons_zero]; rfl) rfl ?hw23 (fun w1 => ?hy23) ?hn23; (case hw23 => rfl); (case hy23 => (go_simp; (try with_reducible rfl))); (try simp only [Act.put, List.setIfInBounds_toArray, List.set_cons_zero, List.set_cons_succ]))
        (refine TD.val0 (v := ?v24) (by simp only [List.getElem?_toArray, List.getElem?_cons_succ, List.getElem?_cons_zero]; rfl) rfl ?hw24 (fun w1 => ?hy24) ?hn24; (case hw24 => rfl); (case hy24 => (go_simp; (try with_reducible rfl))); (try simp only [Act.put, List.setIfInBounds_toArray, List.set_cons_zero, List.set_cons_succ]))
        (refine TD.load (v := ?v25) (p := ?p25) (Mod.refl _ _) (by simp only [List.getElem?_toArray, List.getElem?_cons_succ, List.getElem?_cons_zero]; rfl) rfl ?hw25 rfl ?hx25 (fun wq hSq => ?hy25) ?hn25; (case hw25 => rfl); (case hx25 => (simp only [Act.eval, Array.getD_eq_getD_getElem?, List.getElem?_toArray, List.getElem?_cons_succ, List.getElem?_cons_zero, Option.getD_some]; (try rfl))); (case hy25 => (have klq := hSq.at kl (fun h => h); have krq := hSq.at kr (fun h => h); have kp3q := hSq.at kp3 (fun h => h); have kp4q := hSq.at kp4 (fun h => h); go_simp; (try with_reducible rfl))); (try simp only [Act.put, List.setIfInBounds_toArray, List.set_cons_zero, List.set_cons_succ]))
        (refine TD.val0 (v := ?v26) (by simp only [List.getElem?_toArray, List.getElem?_cons_succ, List.getElem?_cons_zero]; rfl) rfl ?hw26 (fun w1 => ?hy26) ?hn26; (case hw26 => rfl); (case hy26 => (go_simp; (try with_reducible rfl))); (try simp only [Act.put, List.setIfInBounds_toArray, List.set_cons_zero, List.set_cons_succ]))
        (refine TD.val0 (v := ?v27) (by simp only [List.getElem?_toArray, List.getElem?_cons_succ, List.getElem?_cons_zero]; rfl) rfl ?hw27 (fun w1 => ?hy27) ?hn27; (case hw27 => rfl); (case hy27 => (go_simp; (try with_reducible rfl))); (try simp only [Act.put, List.setIfInBounds_toArray, List.set_cons_zero, List.set_cons_succ]))
        (refine TD.val0 (v := ?v28) (by simp only [List.getElem?_toArray, List.getElem?_cons_succ, List.getElem?_cons_zero]; rfl) rfl ?hw28 (fun w1 => ?hy28) ?hn28; (case hw28 => rfl); (case hy28 => (go_simp; (try with_reducible rfl))); (try simp only [Act.put, List.setIfInBounds_toArray, List.set_cons_zero, List.set_cons_succ]))
        (refine TD.load (v := ?v29) (p := ?p29) (Mod.refl _ _) (by simp only [List.getElem?_toArray, List.getElem?_cons_succ, List.getElem?_cons_zero]; rfl) rfl ?hw29 rfl ?hx29 (fun wq hSq => ?hy29) ?hn29; (case hw29 => rfl); (case hx29 => (simp only [Act.eval, Array.getD_eq_getD_getElem?, List.getElem?_toArray, List.getElem?_cons_succ, List.getElem?_cons_zero, Option.getD_some]; (try rfl))); (case hy29 => (have klq := hSq.at kl (fun h => h); have krq := hSq.at kr (fun h => h); have kp3q := hSq.at kp3 (fun h => h); have kp4q := hSq.at kp4 (fun h => h); go_simp; (try with_reducible rfl))); (try simp only [Act.put, List.setIfInBounds_toArray, List.set_cons_zero, List.set_cons_succ]))
        (refine TD.load (v := ?v30) (p := ?p30) (Mod.refl _ _) (by simp only [List.getElem?_toArray, List.getElem?_cons_succ, List.getElem?_cons_zero]; rfl) rfl ?hw30 rfl ?hx30 (fun wq hSq => ?hy30) ?hn30; (case hw30 => rfl); (case hx30 => (simp only [Act.eval, Array.getD_eq_getD_getElem?, List.getElem?_toArray, List.getElem?_cons_succ, List.getElem?_cons_zero, Option.getD_some]; (try rfl))); (case hy30 => (have klq := hSq.at kl (fun h => h); have krq := hSq.at kr (fun h => h); have kp3q := hSq.at kp3 (fun h => h); have kp4q := hSq.at kp4 (fun h => h); go_simp; (try with_reducible rfl))); (try simp only [Act.put, List.setIfInBounds_toArray, List.set_cons_zero, List.set_cons_succ]))
        (refine TD.val0 (v := ?v31) (by simp only [List.getElem?_toArray, List.getElem?_cons_succ, List.getElem?_cons_zero]; rfl) rfl ?hw31 (fun w1 => ?hy31) ?hn31; (case hw31 => rfl); (case hy31 => (go_simp; (try with_reducible rfl))); (try simp only [Act.put, List.setIfInBounds_toArray, List.set_cons_zero, List.set_cons_succ]))
        refine TD.nil (fun w2 hr => ?_)
        have kl := hr.mod.at kl (fun h => h)
        have kr := hr.mod.at kr (fun h => h)
        have kp3 := hr.mod.at kp3 (fun h => h)
        have kp4 := hr.mod.at kp4 (fun h => h)
        have m2 := hm.then0 hr.mod
        clear e1 e2
        go_wp2_with fail
        go_roundw
        case rel => exact ⟨i + 1, by omega, by go_num, HR, m2⟩
        case measure => simp [intOf]; omega
    · obtain rfl : i = L.length := by omega
      have HR : Hid (getA (L.map ofH) k = acct0) := Lib.hid (by
        rw [HG.out, List.drop_length]
        rfl)
      clear hs1
      go_upto_region 6 with fail
      have Lkr := lt_size kr
      have Lkp3 := lt_size kp3
      have Lkp4 := lt_size kp4
      refine wp_pass0 (C := fun _ _ _ => False) (κ := fun i => [0, 5].getD i 0) [0, 1] (by kernel_rfl) (by kernel_rfl) (fun _ _ d _ _ h => by cases d <;> exact h) ?_
      (refine TD.build (v := ?v32) (ps := ?p32) (by simp only [List.getElem?_toArray, List.getElem?_cons_succ, List.getElem?_cons_zero]; rfl) rfl ?hw32 rfl ?hx32 (fun w1 => ?hy32) ?hn32; (case hw32 => rfl); (case hx32 => (simp only [List.map_toArray, List.map_cons, List.map_nil, Act.eval, Array.getD_eq_getD_getElem?, List.getElem?_toArray, List.getElem?_cons_succ, List.getElem?_cons_zero, Option.getD_some]; (try rfl))); (case hy32 => (rw [hb0]; (try with_reducible rfl))); (try simp only [Act.put, List.setIfInBounds_toArray, List.set_cons_zero, List.set_cons_succ]))
      refine TD.eff (by simp only [List.getElem?_toArray, List.getElem?_cons_succ, List.getElem?_cons_zero]; rfl) rfl (fun wE hr => ?_)
      have kr := hr.mod.at0 kr
      have kp3 := hr.mod.at0 kp3
      have kp4 := hr.mod.at0 kp4
      have mE := hr.mod
      (refine eff_store (X := ?X33) (Y := ?Y33) (w' := ?w33) (by simp only [List.getElem?_toArray, List.getElem?_cons_succ, List.getElem?_cons_zero]; rfl) ?hw33 rfl ?hx33 ?hz33 ?hy33 ?hn33; (case hw33 => rfl); (case hx33 => (simp only [Act.eval, Array.getD_eq_getD_getElem?, List.getElem?_toArray, List.getElem?_cons_succ, List.getElem?_cons_zero, Option.getD_some]; (try rfl))); (case hz33 => (simp only [Act.eval, Array.getD_eq_getD_getElem?, List.getElem?_toArray, List.getElem?_cons_succ, List.getElem?_cons_zero, Option.getD_some]; (try rfl))); (case hy33 => (go_simp; (try with_reducible rfl))))
      (first | refine TE.nil_set kp4 (fun w3 kp4 mS => ?_) | refine TE.nil_setCell kp4 (fun w3 kp4 mS => ?_))
      (try simp only [Array.setIfInBounds, List.setIfInBounds_toArray, List.set_cons_zero, List.set_cons_succ] at kp4)
      have kr := mS.at_ne kr (by omega)
      have kp3 := mS.at_ne kp3 (by omega)
      have m3 := (((m1.then0 hm).then0 mE).thenB mS (.inl gp4))
      clear hb0
      go_wp2_with fail
      exact bodyPost_ret (results_cell1 (v := .agg (av acct0)) rfl rfl (by rw [ldAcct]; simp [kp4, av_size, av_all])) rfl ⟨by rw [HR.out], m3⟩
end Go.Proofs.Ytknmiojegnbakaa
