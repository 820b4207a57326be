/- The book of lists, of holdings: sign, own. -/
import Derived.Test.YtknmiojegnbakaaBook
namespace Go.Proofs.Ytknmiojegnbakaa
open Go.RowKit
open Go.ChangeMaps (setBlock)
set_option linter.unusedSimpArgs false
set_option linter.unusedVariables false
attribute [local go_sem ↓] wlKey ldKey stKey wlAcct ldAcct stAcct wlHold ldHold stHold eqKey1 eqAcct eqHold
attribute [local go_sem] eqMap neMap av_size av_c av_s av_c' av_s' av_o av_all av_one hd_size hd_key hd_acct hd_all hd_one zKey_size zAcct_size zHold_size cell_blk frozen_blk kc_ext one_int one_bool one_ptr one_slice one_map kc_one kc_one0 kc_size Value.cells
attribute [local go_sem] sh_size sh_0 sh_0' sh_h sh_f
theorem wr_get (vs : List Value) (cs : Array Value) (o : Nat) (h : o + vs.length ≤ cs.size) (t : Nat) : (wr cs o vs)[t]? = if o ≤ t ∧ t < o + vs.length then vs[t - o]? else cs[t]? := by
  rw [← Array.getElem?_toList, wr_list vs cs o h]
  have hl : cs.toList.length = cs.size := Array.length_toList
  by_cases h1 : t < o
  · rw [if_neg (by omega), List.append_assoc, List.getElem?_append_left (by rw [List.length_take]; omega), List.getElem?_take, if_pos h1, Array.getElem?_toList]
  · by_cases h2 : t < o + vs.length
    · rw [if_pos ⟨by omega, h2⟩, List.append_assoc, List.getElem?_append_right (by rw [List.length_take]; omega), List.length_take, Nat.min_eq_left (by omega), List.getElem?_append_left (by omega)]
    · rw [if_neg (by omega), List.getElem?_append_right (by rw [List.length_append, List.length_take]; omega), List.length_append, List.length_take, Nat.min_eq_left (by omega), List.getElem?_drop, Array.getElem?_toList]
      congr 1
      omega
theorem row_set {α : Type} {f : α → Array Value} {n o i : Nat} {C : Array Value} {l : List α} (hs : ∀ x, (f x).size = n) (hrow : ∀ j y, l[j]? = some y → C.extract (o + j * n) (o + j * n + n) = f y ∧ o + j * n + n ≤ C.size) (hi : i < l.length) (x : α) :
    ∀ j y, (l.set i x)[j]? = some y → (wr C (o + i * n) (f x).toList).extract (o + j * n) (o + j * n + n) = f y ∧ o + j * n + n ≤ (wr C (o + i * n) (f x).toList).size := by
  intro j y hy
  have hfl : (f x).toList.length = n := by rw [Array.length_toList, hs]
  have hii := (hrow i _ (List.getElem?_eq_getElem hi)).2
  rw [wr_size]
  have hget := fun t => wr_get (f x).toList C (o + i * n) (by rw [hfl]; exact hii) t
  rw [hfl] at hget
  by_cases hj : j = i
  · subst hj
    rw [List.getElem?_set_self hi] at hy
    cases hy
    refine ⟨?_, hii⟩
    apply Array.ext_getElem?
    intro t
    rw [Array.getElem?_extract, wr_size]
    by_cases ht : t < n
    · rw [if_pos (by omega), hget, if_pos (by omega), Nat.add_sub_cancel_left, Array.getElem?_toList]
    · rw [if_neg (by omega), Array.getElem?_eq_none (by rw [hs]; omega)]
  · rw [List.getElem?_set_ne (fun e => hj e.symm)] at hy
    obtain ⟨h1, h2⟩ := hrow j y hy
    refine ⟨?_, h2⟩
    rw [← h1]
    apply Array.ext_getElem?
    intro t
    rw [Array.getElem?_extract, Array.getElem?_extract, wr_size]
    by_cases ht : t < n
    · rw [if_pos (by omega), if_pos (by omega), hget, if_neg]
      intro hh
      rcases Nat.lt_or_ge j i with h | h
      · have : (j + 1) * n ≤ i * n := Nat.mul_le_mul_right _ h
        rw [Nat.add_mul, Nat.one_mul] at this
        omega
      · have : (i + 1) * n ≤ j * n := Nat.mul_le_mul_right _ (by omega)
        rw [Nat.add_mul, Nat.one_mul] at this
        omega
    · rw [if_neg (by omega), if_neg (by omega)]
theorem ite_wr {xs cs : Array Value} {o n : Nat} (h : xs.size = n) : (if o = 0 ∧ n = cs.size then xs else wr cs o xs.toList) = wr cs o xs.toList := by
  split
  · rename_i hh
    obtain ⟨rfl, h2⟩ := hh
    rw [wr_whole _ _ (by omega)]
  · rfl
theorem ite_wr2 {xs cs : Array Value} {o k n : Nat} (h : xs.size = n) : (if (o = 0 ∧ k = 0) ∧ n = cs.size then xs else wr cs (o + k) xs.toList) = wr cs (o + k) xs.toList := by
  split
  · rename_i hh
    obtain ⟨⟨rfl, rfl⟩, h2⟩ := hh
    rw [Nat.zero_add, wr_whole _ _ (by omega)]
  · rfl
theorem set_rep {h : Hold} {l : List Hold} {i : Nat} (hi : i < l.length) : (List.replicate i h ++ l.drop i).set i h = List.replicate (i + 1) h ++ l.drop (i + 1) := by
  rw [List.set_append_right _ _ (by simp), List.length_replicate, Nat.sub_self, List.drop_eq_getElem_cons hi, List.set_cons_zero, List.replicate_succ']
  simp
/-- A list that may be written. -/
def WAt (w : World) (a : Option Addr) (l : List Hold) : Prop := l = [] ∨ ∃ b o C U, a = some ⟨b, o, none⟩ ∧ w.heap[b]? = some (.cells C U (0, 0)) ∧ ∀ j y, l[j]? = some y → C.extract (o + j * 66) (o + j * 66 + 66) = hd y ∧ o + j * 66 + 66 ≤ C.size
theorem WAt.sl {w : World} {a : Option Addr} {l : List Hold} (h : WAt w a l) : SlAt hd 66 w a l := by
  rcases h with h | ⟨b, o, C, U, h1, h2, h3⟩
  · exact .inl h
  · exact .inr ⟨b, o, C, _, _, h1, h2, h3⟩
theorem WAt.mod {w w' : World} {a : Option Addr} {l : List Hold} {S : Nat → Prop} (h : WAt w a l) (hm : Mod S w w') (hS : ∀ b o, a = some ⟨b, o, none⟩ → ¬ S b) : WAt w' a l := by
  rcases h with h | ⟨b, o, C, U, h1, h2, h3⟩
  · exact .inl h
  · exact .inr ⟨b, o, C, U, h1, hm.at h2 (hS b o h1), h3⟩
theorem WAt.of {w : World} {a : Option Addr} {l : List Hold} (h : SlAt hd 66 w a l) (hf : Fz w a) : WAt w a l := by
  rcases h with h | ⟨b, o, C, U, fr, h1, h2, h3⟩
  · exact .inl h
  · obtain ⟨C', U', hc⟩ := hf b o h1
    rw [h2] at hc
    cases hc
    exact .inr ⟨b, o, C, U, h1, h2, h3⟩
def InA (a : Option Addr) (i : Nat) : Prop := ∃ o, a = some ⟨i, o, none⟩
set_option maxRecDepth 20000 in
set_option maxHeartbeats 1600000 in
theorem sign0_c (p : Pg) (l : List Hold) (hl : l.length = p.n) (hb : p.n ≤ 900000) (w : World) (h : WAt w p.a l) : Calls Try.prog 74 #[.agg (sh p), .bool false] w fun e w' => e = .returned (.tuple #[]) ∧ WAt w' p.a (List.replicate p.n p.h) ∧ Mod (InA p.a) w w' := by
  go_enter Try.func74, Try.ntmps74
  go_upto_region 0 with fail
  refine wp_pass0 (C := fun _ _ _ => False) (κ := fun i => [3].getD i 0) [0] (by kernel_rfl) (by kernel_rfl) (fun _ _ d _ _ h => by cases d <;> exact h) ?_
  (refine TD.box (v := ?v1) (by simp only [List.getElem?_toArray, List.getElem?_cons_succ, List.getElem?_cons_zero]; rfl) rfl ?hw1 rfl rfl ?hx1 (fun p2 hp2 => ?hn1); (case hw1 => rfl); (case hx1 => (simp only [Act.eval, Array.getD_eq_getD_getElem?, List.getElem?_toArray, List.getElem?_cons_succ, List.getElem?_cons_zero, Option.getD_some]; (try rfl))); (try simp only [Act.put, List.setIfInBounds_toArray, List.set_cons_zero, List.set_cons_succ]))
  refine TD.nil (fun w1 hr => ?_)
  have kp2 := hr.box p2 _ (by first | exact Bx.set_same _ _ _ | (simp only [Bx.set_same]; rfl)); dsimp only [Value.cells] at kp2; obtain ⟨gp2, kp2⟩ := kp2
  have m1 := hr.mod
  have hW := h.mod m1 (fun _ _ _ h => h)
  have HW0 := Lib.hid h
  clear h
  go_wp2_with fail
  go_loopw [4] (fun s4 ws => ∃ i : Nat, i ≤ p.n ∧ s4 = .int .i64 (i : Int) ∧ WAt ws p.a (List.replicate i p.h ++ l.drop i) ∧ Mod (InA p.a) w1 ws ∧ ws.heap[p2]? = some (.cells (sh p) 78 (0, 0))) (fun s4 _ => p.n - (intOf s4).toNat)
  case atStart => exact ⟨0, by omega, rfl, by simpa using hW, Mod.refl _ _, kp2⟩
  case round =>
    clear kp2
    obtain ⟨i, hi, rfl, hW2, hm, kp2⟩ := hrel
    by_cases hlt : i < p.n
    · have hlen : (List.replicate i p.h ++ l.drop i).length = p.n := by simp; omega
      rcases id hW2 with hnil | ⟨g, o, C, U, ha, kl, hrow⟩
      · rw [hnil] at hlen; simp at hlen; omega
      · have HROW := Lib.hid hrow
        have hle := (hrow i _ (List.getElem?_eq_getElem (by omega))).2
        have hgp : p2 ≠ g := fun e => by
          subst e
          rcases HW0.out with h0 | ⟨g0, o0, C0, U0, ha0, kl0, _⟩
          · rw [h0] at hl
            simp at hl
            omega
          · rw [ha] at ha0
            cases ha0
            have := lt_size kl0
            omega
        have e1 := sh_h2 p
        have HA := Lib.hid ha
        have HLEN := Lib.hid hlen
        have HW := Lib.hid hW
        have HL := Lib.hid hl
        clear hrow hW2 hlen hW hl
        obtain ⟨pa, pn, ph, pf⟩ := p
        dsimp only at *
        subst ha
        go_upto_region 5 with fail
        have Lkl := lt_size kl
        have Lkp2 := lt_size kp2
        refine wp_pass0 (C := fun _ _ _ => False) (κ := fun i => [0, 1, 0, 0, 1, 0, 5].getD i 0) [0, 1, 2, 3, 4, 5, 6] (by kernel_rfl) (by kernel_rfl) (fun _ _ d _ _ h => by cases d <;> exact h) ?_
        (refine TD.val0 (v := ?v2) (by simp only [List.getElem?_toArray, List.getElem?_cons_succ, List.getElem?_cons_zero]; rfl) rfl ?hw2 (fun w1 => ?hy2) ?hn2; (case hw2 => rfl); (case hy2 => (go_simp; (try with_reducible rfl))); (try simp only [Act.put, List.setIfInBounds_toArray, List.set_cons_zero, List.set_cons_succ]))
        (refine TD.load (v := ?v3) (p := ?p3) (Mod.refl _ _) (by simp only [List.getElem?_toArray, List.getElem?_cons_succ, List.getElem?_cons_zero]; rfl) rfl ?hw3 rfl ?hx3 (fun wq hSq => ?hy3) ?hn3; (case hw3 => rfl); (case hx3 => (simp only [Act.eval, Array.getD_eq_getD_getElem?, List.getElem?_toArray, List.getElem?_cons_succ, List.getElem?_cons_zero, Option.getD_some]; (try rfl))); (case hy3 => (have klq := hSq.at kl (fun h => h); have kp2q := hSq.at kp2 (fun h => h); go_simp; (try with_reducible rfl))); (try simp only [Act.put, List.setIfInBounds_toArray, List.set_cons_zero, List.set_cons_succ]))
        (refine TD.val0 (v := ?v4) (by simp only [List.getElem?_toArray, List.getElem?_cons_succ, List.getElem?_cons_zero]; rfl) rfl ?hw4 (fun w1 => ?hy4) ?hn4; (case hw4 => rfl); (case hy4 => (go_simp; (try with_reducible rfl))); (try simp only [Act.put, List.setIfInBounds_toArray, List.set_cons_zero, List.set_cons_succ]))
        (refine TD.val0 (v := ?v5) (by simp only [List.getElem?_toArray, List.getElem?_cons_succ, List.getElem?_cons_zero]; rfl) rfl ?hw5 (fun w1 => ?hy5) ?hn5; (case hw5 => rfl); (case hy5 => (go_simp; (try with_reducible rfl))); (try simp only [Act.put, List.setIfInBounds_toArray, List.set_cons_zero, List.set_cons_succ]))
        (refine TD.load (v := ?v6) (p := ?p6) (Mod.refl _ _) (by simp only [List.getElem?_toArray, List.getElem?_cons_succ, List.getElem?_cons_zero]; rfl) rfl ?hw6 rfl ?hx6 (fun wq hSq => ?hy6) ?hn6; (case hw6 => rfl); (case hx6 => (simp only [Act.eval, Array.getD_eq_getD_getElem?, List.getElem?_toArray, List.getElem?_cons_succ, List.getElem?_cons_zero, Option.getD_some]; (try rfl))); (case hy6 => (have klq := hSq.at kl (fun h => h); have kp2q := hSq.at kp2 (fun h => h); go_simp; (try with_reducible rfl))); (try simp only [Act.put, List.setIfInBounds_toArray, List.set_cons_zero, List.set_cons_succ]))
        (refine TD.val0 (v := ?v7) (by simp only [List.getElem?_toArray, List.getElem?_cons_succ, List.getElem?_cons_zero]; rfl) rfl ?hw7 (fun w1 => ?hy7) ?hn7; (case hw7 => rfl); (case hy7 => (go_simp; (try with_reducible rfl))); (try simp only [Act.put, List.setIfInBounds_toArray, List.set_cons_zero, List.set_cons_succ]))
        refine TD.eff (by simp only [List.getElem?_toArray, List.getElem?_cons_succ, List.getElem?_cons_zero]; rfl) rfl (fun wE hr => ?_)
        have kl := hr.mod.at0 kl
        have kp2 := hr.mod.at0 kp2
        have mE := hr.mod
        (refine eff_store (X := ?X8) (Y := ?Y8) (w' := ?w8) (by simp only [List.getElem?_toArray, List.getElem?_cons_succ, List.getElem?_cons_zero]; rfl) ?hw8 rfl ?hx8 ?hz8 ?hy8 ?hn8; (case hw8 => rfl); (case hx8 => (simp only [Act.eval, Array.getD_eq_getD_getElem?, List.getElem?_toArray, List.getElem?_cons_succ, List.getElem?_cons_zero, Option.getD_some]; (try rfl))); (case hz8 => (simp only [Act.eval, Array.getD_eq_getD_getElem?, List.getElem?_toArray, List.getElem?_cons_succ, List.getElem?_cons_zero, Option.getD_some]; (try rfl))); (case hy8 => (go_simp; (try with_reducible rfl))))
        (first | refine TE.nil_set kl (fun w3 kl mS => ?_) | refine TE.nil_setCell kl (fun w3 kl mS => ?_))
        (try simp only [Array.setIfInBounds, List.setIfInBounds_toArray, List.set_cons_zero, List.set_cons_succ] at kl)
        have kp2 := mS.at_ne kp2 (by omega)
        rw [ite_wr2 (hd_size ph)] at kl
        have hrow2 := row_set hd_size HROW.out (i := i) (by rw [HLEN.out]; exact hlt) ph
        rw [set_rep (by rw [HL.out]; exact hlt)] at hrow2
        have HW3 : Hid (WAt w3 (some ⟨g, o, none⟩) (List.replicate (i + 1) ph ++ l.drop (i + 1))) := Lib.hid (.inr ⟨g, o, _, _, rfl, kl, hrow2⟩)
        have hm3 := (hm.then0 mE).then mS (fun j _ e => ⟨o, by rw [e]⟩)
        clear e1 kl hrow2 hm mS mE hle
        go_wp2_with fail
        go_roundw
        case rel => exact ⟨i + 1, by omega, by go_num, HW3.out, hm3, kp2⟩
        case measure => simp [intOf]; omega
    · obtain rfl : i = p.n := by omega
      have HW2 : Hid (WAt wr p.a (List.replicate p.n p.h)) := Lib.hid (by
        have := hW2
        rw [List.drop_of_length_le (by omega), List.append_nil] at this
        exact this)
      clear hW2 hW
      go_wp2_with fail
      exact bodyPost_ret (v := .tuple #[]) (results_none rfl _ _ _) rfl ⟨rfl, HW2.out, (m1.mono (fun _ _ h => h.elim)).trans hm⟩
theorem sl_take0 (w : World) : (Instr.sliceAt 35 (.slice none 0 0) none (some (.int .i64 0)) none).run Try.prog w = .ok (.slice none 0 0) w := by
  obtain ⟨i0, z, hi, hz, hz1, hz2, hz3⟩ := holdT.info
  simp only [Instr.sliceAt, Instr.slice, Instr.sliceBounds, Instr.sliceBound, asIntOf, sizeOf, typeInfo, run_underlying holdT.u, hi, Sem.run_bind, Sem.run_pure, Result.andThen_ok]
  rw [if_pos ⟨by omega, by omega⟩]
  simp [Sem.run_pure, Result.andThen_ok, Go.program, Sem.run, hi, hz1]
theorem sl_whole {p : Pg} {w : World} {l : List Hold} (hl : l.length = p.n) (h : WAt w p.a l) (hn : p.a = none → p.n = 0) (ha : ∀ x, p.a = some x → x.spot = none) (w2 : World) : (Instr.sliceAt 35 (.slice p.a p.n p.n) none (some (.int .i64 (p.n : Int))) none).run Try.prog w2 = .ok (.slice p.a p.n p.n) w2 := by
  cases hp : p.a with
  | none =>
    rw [hn hp]
    exact sl_take0 w2
  | some x =>
    obtain ⟨g, o, sp⟩ := x
    have : sp = none := ha _ hp
    subst this
    exact sl_take holdT (Nat.le_refl _) w2
set_option maxRecDepth 20000 in
set_option maxHeartbeats 1600000 in
theorem sign1_c (p : Pg) (hb : p.n ≤ 900000) (hsl : ∀ w2, (Instr.sliceAt 35 (.slice p.a p.n p.n) none (some (.int .i64 (p.n : Int))) none).run Try.prog w2 = .ok (.slice p.a p.n p.n) w2) (w : World) : Calls Try.prog 74 #[.agg (sh p), .bool true] w fun e w' => e = .returned (.tuple #[]) ∧ Mod (fun _ => False) w w' := by
  go_enter Try.func74, Try.ntmps74
  go_upto_region 0 with fail
  refine wp_pass0 (C := fun _ _ _ => False) (κ := fun i => [3].getD i 0) [0] (by kernel_rfl) (by kernel_rfl) (fun _ _ d _ _ h => by cases d <;> exact h) ?_
  (refine TD.box (v := ?v9) (by simp only [List.getElem?_toArray, List.getElem?_cons_succ, List.getElem?_cons_zero]; rfl) rfl ?hw9 rfl rfl ?hx9 (fun p2 hp2 => ?hn9); (case hw9 => rfl); (case hx9 => (simp only [Act.eval, Array.getD_eq_getD_getElem?, List.getElem?_toArray, List.getElem?_cons_succ, List.getElem?_cons_zero, Option.getD_some]; (try rfl))); (try simp only [Act.put, List.setIfInBounds_toArray, List.set_cons_zero, List.set_cons_succ]))
  refine TD.nil (fun w1 hr => ?_)
  have kp2 := hr.box p2 _ (by first | exact Bx.set_same _ _ _ | (simp only [Bx.set_same]; rfl)); dsimp only [Value.cells] at kp2; obtain ⟨gp2, kp2⟩ := kp2
  have m1 := hr.mod
  go_upto_region 6 with fail
  have Lkp2 := lt_size kp2
  refine wp_pass0 (C := fun _ _ _ => False) (κ := fun i => [0, 1, 0, 1, 0, 0, 0].getD i 0) [0, 1, 2, 3, 4, 5, 6] (by kernel_rfl) (by kernel_rfl) (fun _ _ d _ _ h => by cases d <;> exact h) ?_
  (refine TD.val0 (v := ?v10) (by simp only [List.getElem?_toArray, List.getElem?_cons_succ, List.getElem?_cons_zero]; rfl) rfl ?hw10 (fun w1 => ?hy10) ?hn10; (case hw10 => rfl); (case hy10 => (go_simp; (try with_reducible rfl))); (try simp only [Act.put, List.setIfInBounds_toArray, List.set_cons_zero, List.set_cons_succ]))
  (refine TD.load (v := ?v11) (p := ?p11) (Mod.refl _ _) (by simp only [List.getElem?_toArray, List.getElem?_cons_succ, List.getElem?_cons_zero]; rfl) rfl ?hw11 rfl ?hx11 (fun wq hSq => ?hy11) ?hn11; (case hw11 => rfl); (case hx11 => (simp only [Act.eval, Array.getD_eq_getD_getElem?, List.getElem?_toArray, List.getElem?_cons_succ, List.getElem?_cons_zero, Option.getD_some]; (try rfl))); (case hy11 => (have kp2q := hSq.at kp2 (fun h => h); go_simp; (try with_reducible rfl))); (try simp only [Act.put, List.setIfInBounds_toArray, List.set_cons_zero, List.set_cons_succ]))
  (refine TD.val0 (v := ?v12) (by simp only [List.getElem?_toArray, List.getElem?_cons_succ, List.getElem?_cons_zero]; rfl) rfl ?hw12 (fun w1 => ?hy12) ?hn12; (case hw12 => rfl); (case hy12 => (go_simp; (try with_reducible rfl))); (try simp only [Act.put, List.setIfInBounds_toArray, List.set_cons_zero, List.set_cons_succ]))
  (refine TD.load (v := ?v13) (p := ?p13) (Mod.refl _ _) (by simp only [List.getElem?_toArray, List.getElem?_cons_succ, List.getElem?_cons_zero]; rfl) rfl ?hw13 rfl ?hx13 (fun wq hSq => ?hy13) ?hn13; (case hw13 => rfl); (case hx13 => (simp only [Act.eval, Array.getD_eq_getD_getElem?, List.getElem?_toArray, List.getElem?_cons_succ, List.getElem?_cons_zero, Option.getD_some]; (try rfl))); (case hy13 => (have kp2q := hSq.at kp2 (fun h => h); go_simp; (try with_reducible rfl))); (try simp only [Act.put, List.setIfInBounds_toArray, List.set_cons_zero, List.set_cons_succ]))
  (refine TD.val0 (v := ?v14) (by simp only [List.getElem?_toArray, List.getElem?_cons_succ, List.getElem?_cons_zero]; rfl) rfl ?hw14 (fun w1 => ?hy14) ?hn14; (case hw14 => rfl); (case hy14 => (go_simp; (try with_reducible rfl))); (try simp only [Act.put, List.setIfInBounds_toArray, List.set_cons_zero, List.set_cons_succ]))
  (refine TD.slice (by simp only [List.getElem?_toArray, List.getElem?_cons_succ, List.getElem?_cons_zero]; rfl) rfl ?hw15 rfl ?hs15 ?hl15 ?hh15 ?hm15 hsl ?hn15; (case hw15 => rfl); (case hs15 => (simp only [Act.eval, Array.getD_eq_getD_getElem?, List.getElem?_toArray, List.getElem?_cons_succ, List.getElem?_cons_zero, Option.getD_some]; (try rfl))); (case hl15 => first | rfl | (simp only [Option.map_some, Act.eval, Array.getD_eq_getD_getElem?, List.getElem?_toArray, List.getElem?_cons_succ, List.getElem?_cons_zero, Option.getD_some]; (try rfl))); (case hh15 => first | rfl | (simp only [Option.map_some, Act.eval, Array.getD_eq_getD_getElem?, List.getElem?_toArray, List.getElem?_cons_succ, List.getElem?_cons_zero, Option.getD_some]; (try rfl))); (case hm15 => rfl); (try simp only [Act.put, List.setIfInBounds_toArray, List.set_cons_zero, List.set_cons_succ]))
  (refine TD.val0 (v := ?v16) (by simp only [List.getElem?_toArray, List.getElem?_cons_succ, List.getElem?_cons_zero]; rfl) rfl ?hw16 (fun w1 => ?hy16) ?hn16; (case hw16 => rfl); (case hy16 => (go_simp; (try with_reducible rfl))); (try simp only [Act.put, List.setIfInBounds_toArray, List.set_cons_zero, List.set_cons_succ]))
  refine TD.nil (fun w2 hr => ?_)
  have kp2 := hr.mod.at kp2 (fun h => h)
  have m2 := m1.then0 hr.mod
  go_wp2_with fail
  go_loopw [6] (fun s6 ws => s6 = .int .i64 (p.n : Int) ∧ ws = w2) (fun _ _ => 0)
  case atStart => exact ⟨rfl, rfl⟩
  case round =>
    obtain ⟨rfl, rfl⟩ := hrel
    go_wp2_with fail
    go_end0
    exact ⟨rfl, m2⟩
set_option maxRecDepth 20000 in
set_option maxHeartbeats 1600000 in
theorem own_c (p : Pg) (hb : p.n ≤ 900000) (hsl : ∀ w2, (Instr.sliceAt 35 (.slice p.a p.n p.n) none (some (.int .i64 (p.n : Int))) none).run Try.prog w2 = .ok (.slice p.a p.n p.n) w2) (w : World) (h : WAt w p.a (List.replicate p.n p.h)) : Calls Try.prog 73 #[.agg (sh p)] w fun e w' => e = .returned (.bool true) ∧ Mod (fun _ => False) w w' := by
  have hs := h.sl
  clear h
  go_enter Try.func73, Try.ntmps73
  go_upto_region 0 with fail
  refine wp_pass0 (C := fun _ _ _ => False) (κ := fun i => [3, 0].getD i 0) [0, 1] (by kernel_rfl) (by kernel_rfl) (fun _ _ d _ _ h => by cases d <;> exact h) ?_
  (refine TD.box (v := ?v17) (by simp only [List.getElem?_toArray, List.getElem?_cons_succ, List.getElem?_cons_zero]; rfl) rfl ?hw17 rfl rfl ?hx17 (fun p1 hp1 => ?hn17); (case hw17 => rfl); (case hx17 => (simp only [Act.eval, Array.getD_eq_getD_getElem?, List.getElem?_toArray, List.getElem?_cons_succ, List.getElem?_cons_zero, Option.getD_some]; (try rfl))); (try simp only [Act.put, List.setIfInBounds_toArray, List.set_cons_zero, List.set_cons_succ]))
  (refine TD.val0 (v := ?v18) (by simp only [List.getElem?_toArray, List.getElem?_cons_succ, List.getElem?_cons_zero]; rfl) rfl ?hw18 (fun w1 => ?hy18) ?hn18; (case hw18 => rfl); (case hy18 => (go_simp; (try with_reducible rfl))); (try simp only [Act.put, List.setIfInBounds_toArray, List.set_cons_zero, List.set_cons_succ]))
  refine TD.nil (fun w1 hr => ?_)
  have kp1 := hr.box p1 _ (by first | exact Bx.set_same _ _ _ | (simp only [Bx.set_same]; rfl)); dsimp only [Value.cells] at kp1; obtain ⟨gp1, kp1⟩ := kp1
  have m1 := hr.mod
  have hs1 := hs.mod0 hr.mod
  clear hs
  go_wp2_with fail
  go_loopw [3] (fun s3 ws => ∃ i : Nat, i ≤ p.n ∧ s3 = .int .i64 (i : Int) ∧ Mod (fun _ => False) w1 ws) (fun s3 _ => p.n - (intOf s3).toNat)
  case atStart => exact ⟨0, by omega, rfl, Mod.refl _ _⟩
  case round =>
    obtain ⟨i, hi, rfl, hm⟩ := hrel
    have kp1 := hm.at0 kp1
    by_cases hlt : i < p.n
    · have hx : (List.replicate p.n p.h)[i]? = some p.h := by rw [List.getElem?_replicate, if_pos hlt]
      obtain ⟨g, o, C, U, fr, ha, kl, he, hle⟩ := (hs1.mod0 hm).block hx
      have e1 := sh_h2 p
      have HS1 := Lib.hid hs1
      have HSL := Lib.hid hsl
      clear hs1 hx hsl
      obtain ⟨pa, pn, ph, pf⟩ := p
      dsimp only at *
      subst ha
      go_upto_region 4 with fail
      have Lkl := lt_size kl
      have Lkp1 := lt_size kp1
      refine wp_pass (C := fun _ _ _ => False) (κ := fun i => [0, 1, 0, 0, 1, 0, 1, 0].getD i 0) [0, 1, 2, 3, 4, 5, 6, 7] (by kernel_rfl) (by kernel_rfl) (fun _ _ d _ _ h => by cases d <;> exact h) ?_
      (refine TD.val0 (v := ?v19) (by simp only [List.getElem?_toArray, List.getElem?_cons_succ, List.getElem?_cons_zero]; rfl) rfl ?hw19 (fun w1 => ?hy19) ?hn19; (case hw19 => rfl); (case hy19 => (go_simp; (try with_reducible rfl))); (try simp only [Act.put, List.setIfInBounds_toArray, List.set_cons_zero, List.set_cons_succ]))
      (refine TD.load (v := ?v20) (p := ?p20) (Mod.refl _ _) (by simp only [List.getElem?_toArray, List.getElem?_cons_succ, List.getElem?_cons_zero]; rfl) rfl ?hw20 rfl ?hx20 (fun wq hSq => ?hy20) ?hn20; (case hw20 => rfl); (case hx20 => (simp only [Act.eval, Array.getD_eq_getD_getElem?, List.getElem?_toArray, List.getElem?_cons_succ, List.getElem?_cons_zero, Option.getD_some]; (try rfl))); (case hy20 => (have klq := hSq.at kl (fun h => h); have kp1q := hSq.at kp1 (fun h => h); go_simp; (try with_reducible rfl))); (try simp only [Act.put, List.setIfInBounds_toArray, List.set_cons_zero, List.set_cons_succ]))
      (refine TD.val0 (v := ?v21) (by simp only [List.getElem?_toArray, List.getElem?_cons_succ, List.getElem?_cons_zero]; rfl) rfl ?hw21 (fun w1 => ?hy21) ?hn21; (case hw21 => rfl); (case hy21 => (go_simp; (try with_reducible rfl))); (try simp only [Act.put, List.setIfInBounds_toArray, List.set_cons_zero, List.set_cons_succ]))
      (refine TD.val0 (v := ?v22) (by simp only [List.getElem?_toArray, List.getElem?_cons_succ, List.getElem?_cons_zero]; rfl) rfl ?hw22 (fun w1 => ?hy22) ?hn22; (case hw22 => rfl); (case hy22 => (go_simp; (try with_reducible rfl))); (try simp only [Act.put, List.setIfInBounds_toArray, List.set_cons_zero, List.set_cons_succ]))
      (refine TD.load (v := ?v23) (p := ?p23) (Mod.refl _ _) (by simp only [List.getElem?_toArray, List.getElem?_cons_succ, List.getElem?_cons_zero]; rfl) rfl ?hw23 rfl ?hx23 (fun wq hSq => ?hy23) ?hn23; (case hw23 => rfl); (case hx23 => (simp only [Act.eval, Array.getD_eq_getD_getElem?, List.getElem?_toArray, List.getElem?_cons_succ, List.getElem?_cons_zero, Option.getD_some]; (try rfl))); (case hy23 => (have klq := hSq.at kl (fun h => h); have kp1q := hSq.at kp1 (fun h => h); go_simp; (try with_reducible rfl))); (try simp only [Act.put, List.setIfInBounds_toArray, List.set_cons_zero, List.set_cons_succ]))
      (refine TD.val0 (v := ?v24) (by simp only [List.getElem?_toArray, List.getElem?_cons_succ, List.getElem?_cons_zero]; rfl) rfl ?hw24 (fun w1 => ?hy24) ?hn24; (case hw24 => rfl); (case hy24 => (go_simp; (try with_reducible rfl))); (try simp only [Act.put, List.setIfInBounds_toArray, List.set_cons_zero, List.set_cons_succ]))
      (refine TD.load (v := ?v25) (p := ?p25) (Mod.refl _ _) (by simp only [List.getElem?_toArray, List.getElem?_cons_succ, List.getElem?_cons_zero]; rfl) rfl ?hw25 rfl ?hx25 (fun wq hSq => ?hy25) ?hn25; (case hw25 => rfl); (case hx25 => (simp only [Act.eval, Array.getD_eq_getD_getElem?, List.getElem?_toArray, List.getElem?_cons_succ, List.getElem?_cons_zero, Option.getD_some]; (try rfl))); (case hy25 => (have klq := hSq.at kl (fun h => h); have kp1q := hSq.at kp1 (fun h => h); go_simp; (try with_reducible rfl))); (try simp only [Act.put, List.setIfInBounds_toArray, List.set_cons_zero, List.set_cons_succ]))
      (refine TD.val0 (v := ?v26) (by simp only [List.getElem?_toArray, List.getElem?_cons_succ, List.getElem?_cons_zero]; rfl) rfl ?hw26 (fun w1 => ?hy26) ?hn26; (case hw26 => rfl); (case hy26 => (go_simp; (try with_reducible rfl))); (try simp only [Act.put, List.setIfInBounds_toArray, List.set_cons_zero, List.set_cons_succ]))
      refine TD.nil (fun w3 hr => ?_)
      have kl := hr.mod.at kl (fun h => h)
      have kp1 := hr.mod.at kp1 (fun h => h)
      have hm3 := hm.then0 hr.mod
      clear e1 he hle kl
      go_wp2_with fail
      go_roundw
      case rel => exact ⟨i + 1, by omega, by go_num, hm3⟩
      case measure => simp [intOf]; omega
    · obtain rfl : i = p.n := by omega
      clear hs1
      go_upto_region 6 with fail
      have Lkp1 := lt_size kp1
      refine wp_pass0 (C := fun _ _ _ => False) (κ := fun i => [0, 1, 0, 1, 0, 0, 0].getD i 0) [0, 1, 2, 3, 4, 5, 6] (by kernel_rfl) (by kernel_rfl) (fun _ _ d _ _ h => by cases d <;> exact h) ?_
      (refine TD.val0 (v := ?v27) (by simp only [List.getElem?_toArray, List.getElem?_cons_succ, List.getElem?_cons_zero]; rfl) rfl ?hw27 (fun w1 => ?hy27) ?hn27; (case hw27 => rfl); (case hy27 => (go_simp; (try with_reducible rfl))); (try simp only [Act.put, List.setIfInBounds_toArray, List.set_cons_zero, List.set_cons_succ]))
      (refine TD.load (v := ?v28) (p := ?p28) (Mod.refl _ _) (by simp only [List.getElem?_toArray, List.getElem?_cons_succ, List.getElem?_cons_zero]; rfl) rfl ?hw28 rfl ?hx28 (fun wq hSq => ?hy28) ?hn28; (case hw28 => rfl); (case hx28 => (simp only [Act.eval, Array.getD_eq_getD_getElem?, List.getElem?_toArray, List.getElem?_cons_succ, List.getElem?_cons_zero, Option.getD_some]; (try rfl))); (case hy28 => (have kp1q := hSq.at kp1 (fun h => h); go_simp; (try with_reducible rfl))); (try simp only [Act.put, List.setIfInBounds_toArray, List.set_cons_zero, List.set_cons_succ]))
      (refine TD.val0 (v := ?v29) (by simp only [List.getElem?_toArray, List.getElem?_cons_succ, List.getElem?_cons_zero]; rfl) rfl ?hw29 (fun w1 => ?hy29) ?hn29; (case hw29 => rfl); (case hy29 => (go_simp; (try with_reducible rfl))); (try simp only [Act.put, List.setIfInBounds_toArray, List.set_cons_zero, List.set_cons_succ]))
      (refine TD.load (v := ?v30) (p := ?p30) (Mod.refl _ _) (by simp only [List.getElem?_toArray, List.getElem?_cons_succ, List.getElem?_cons_zero]; rfl) rfl ?hw30 rfl ?hx30 (fun wq hSq => ?hy30) ?hn30; (case hw30 => rfl); (case hx30 => (simp only [Act.eval, Array.getD_eq_getD_getElem?, List.getElem?_toArray, List.getElem?_cons_succ, List.getElem?_cons_zero, Option.getD_some]; (try rfl))); (case hy30 => (have kp1q := hSq.at kp1 (fun h => h); go_simp; (try with_reducible rfl))); (try simp only [Act.put, List.setIfInBounds_toArray, List.set_cons_zero, List.set_cons_succ]))
      (refine TD.val0 (v := ?v31) (by simp only [List.getElem?_toArray, List.getElem?_cons_succ, List.getElem?_cons_zero]; rfl) rfl ?hw31 (fun w1 => ?hy31) ?hn31; (case hw31 => rfl); (case hy31 => (go_simp; (try with_reducible rfl))); (try simp only [Act.put, List.setIfInBounds_toArray, List.set_cons_zero, List.set_cons_succ]))
      (refine TD.slice (by simp only [List.getElem?_toArray, List.getElem?_cons_succ, List.getElem?_cons_zero]; rfl) rfl ?hw32 rfl ?hs32 ?hl32 ?hh32 ?hm32 hsl ?hn32; (case hw32 => rfl); (case hs32 => (simp only [Act.eval, Array.getD_eq_getD_getElem?, List.getElem?_toArray, List.getElem?_cons_succ, List.getElem?_cons_zero, Option.getD_some]; (try rfl))); (case hl32 => first | rfl | (simp only [Option.map_some, Act.eval, Array.getD_eq_getD_getElem?, List.getElem?_toArray, List.getElem?_cons_succ, List.getElem?_cons_zero, Option.getD_some]; (try rfl))); (case hh32 => first | rfl | (simp only [Option.map_some, Act.eval, Array.getD_eq_getD_getElem?, List.getElem?_toArray, List.getElem?_cons_succ, List.getElem?_cons_zero, Option.getD_some]; (try rfl))); (case hm32 => rfl); (try simp only [Act.put, List.setIfInBounds_toArray, List.set_cons_zero, List.set_cons_succ]))
      (refine TD.val0 (v := ?v33) (by simp only [List.getElem?_toArray, List.getElem?_cons_succ, List.getElem?_cons_zero]; rfl) rfl ?hw33 (fun w1 => ?hy33) ?hn33; (case hw33 => rfl); (case hy33 => (go_simp; (try with_reducible rfl))); (try simp only [Act.put, List.setIfInBounds_toArray, List.set_cons_zero, List.set_cons_succ]))
      refine TD.nil (fun w2 hr => ?_)
      have kp1 := hr.mod.at kp1 (fun h => h)
      have m2 := (m1.then0 hm).then0 hr.mod
      go_wp2_with fail
      go_loopw [5] (fun s5 ws => s5 = .int .i64 (p.n : Int) ∧ ws = w2) (fun _ _ => 0)
      case atStart => exact ⟨rfl, rfl⟩
      case round =>
        obtain ⟨rfl, rfl⟩ := hrel
        go_wp2_with fail
        go_ret
        exact ⟨rfl, m2⟩
end Go.Proofs.Ytknmiojegnbakaa
