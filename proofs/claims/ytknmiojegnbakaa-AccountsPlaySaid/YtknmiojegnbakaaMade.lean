/- The rows of acts, and made. -/
import Derived.Test.YtknmiojegnbakaaLives
namespace Go.Proofs.Ytknmiojegnbakaa
open Go.RowKit
open Go.ChangeMaps (setBlock)
set_option linter.unusedSimpArgs false
set_option linter.unusedVariables false
attribute [local go_sem ↓] wlKey ldKey stKey wlAcct ldAcct stAcct wlHold ldHold stHold eqKey1 eqAcct eqHold
attribute [local go_sem] eqMap neMap av_size av_c av_s av_c' av_s' av_o av_all av_one hd_size hd_key hd_acct hd_all hd_one zKey_size zAcct_size zHold_size cell_blk frozen_blk kc_ext one_int one_bool one_ptr one_slice one_map kc_one kc_one0 kc_size Value.cells
/-- An act on a store. -/
structure AAct where
  n : UInt8
  k : Key
  a : Acct
def ac (x : AAct) : Array Value := #[.int .u8 (x.n.toNat : Int)] ++ (kc x.k ++ (av x.a ++ #[]))
theorem ac_size (x : AAct) : (ac x).size = 67 := by simp [ac, av_size]
theorem ac_key (x : AAct) : (ac x).extract 1 33 = kc x.k := extract_app (n := 1) (m := 32) rfl (by simp)
theorem ac_acct (x : AAct) : (ac x).extract 33 67 = av x.a := by
  have := extract_app (a := #[.int .u8 (x.n.toNat : Int)] ++ kc x.k) (b := av x.a) (c := #[]) (n := 33) (m := 34) (by simp) (av_size _)
  simpa [ac, Array.append_assoc] using this
theorem ac_part {C : Array Value} {b : Nat} {x : AAct} (h : C.extract b (b + 67) = ac x) : C.extract (b + 1) (b + 1 + 32) = kc x.k ∧ C.extract (b + 33) (b + 33 + 34) = av x.a := by
  have h1 := congrArg (fun A : Array Value => A.extract 1 33) h
  have h2 := congrArg (fun A : Array Value => A.extract 33 67) h
  simp only [Array.extract_extract, ac_key, ac_acct] at h1 h2
  rw [show min (b + 33) (b + 67) = b + 1 + 32 by omega] at h1
  rw [show min (b + 67) (b + 67) = b + 33 + 34 by omega] at h2
  exact ⟨h1, h2⟩
def madeM (l : List AAct) : List (Key × Acct) := l.foldl (fun m x => putA m x.k x.a) []
theorem madeM_snoc (l : List AAct) (i : Nat) (x : AAct) (h : l[i]? = some x) : putA (madeM (l.take i)) x.k x.a = madeM (l.take (i + 1)) := by
  rw [List.take_add_one, h, madeM, madeM, List.foldl_append]
  rfl
set_option maxRecDepth 20000 in
set_option maxHeartbeats 1600000 in
theorem made_c (a : Option Addr) (l : List AAct) (c : Nat) (w : World) (h : SlAt ac 67 w a l) (hlen : l.length ≤ 150) : Calls Try.prog 9 #[.slice a l.length c] w fun e w' => ∃ p b, e = .returned (.pointer (some ⟨p, 0, none⟩)) ∧ w.heap.size ≤ p ∧ w.heap.size ≤ b ∧ StAt w' p b (madeM l) ∧ Mod (fun _ => False) w w' := by
  go_enter Try.func9, Try.ntmps9
  go_wp2_with fail
  go_at_call 14
  refine (newS_c _).mono ?_
  rintro e w1 ⟨p, b, rfl, hp, hb, hT, m1⟩
  go_wp2_with fail
  go_loopw [4] (fun s4 ws => ∃ i : Nat, i ≤ l.length ∧ s4 = .int .i64 (i : Int) ∧ StAt ws p b (madeM (l.take i)) ∧ Mod (fun _ => False) w ws) (fun s4 _ => l.length - (intOf s4).toNat)
  case atStart => exact ⟨0, by omega, rfl, hT, m1⟩
  case round =>
    clear hT
    obtain ⟨i, hi, rfl, hT, hm⟩ := hrel
    by_cases hlt : i < l.length
    · obtain ⟨x, hx⟩ : ∃ x, l[i]? = some x := ⟨_, List.getElem?_eq_getElem hlt⟩
      have HB := Lib.hid h
      obtain ⟨g, o, C, U, fr, rfl, kl, he, hle⟩ := (h.mod0 hm).block hx
      obtain ⟨e1, e2⟩ := ac_part he
      have d1 : o + i * 67 + 1 + 32 ≤ C.size := by omega
      have d2 : o + i * 67 + 33 + 34 ≤ C.size := by omega
      have HS := Lib.hid (madeM_snoc l i x hx)
      have HT := Lib.hid hT
      clear he hle hx hT h
      obtain ⟨xn, xk, xa⟩ := x
      dsimp only at e1 e2 HS
      go_upto_region 5 with fail
      have Lkl := lt_size kl
      refine wp_pass (C := fun _ _ _ => False) (κ := fun i => [0, 0, 0, 0, 0, 1, 0, 0, 0, 0, 1, 5].getD i 0) [0, 1, 2, 3, 4, 5, 6, 7, 8, 9, 10, 11] (by kernel_rfl) (by kernel_rfl) (fun _ _ d _ _ h => by cases d <;> exact h) ?_
      (refine TD.val0 (v := ?v1) (by simp only [List.getElem?_toArray, List.getElem?_cons_succ, List.getElem?_cons_zero]; rfl) rfl ?hw1 (fun w1 => ?hy1) ?hn1; (case hw1 => rfl); (case hy1 => (go_simp; (try with_reducible rfl))); (try simp only [Act.put, List.setIfInBounds_toArray, List.set_cons_zero, List.set_cons_succ]))
      (refine TD.val0 (v := ?v2) (by simp only [List.getElem?_toArray, List.getElem?_cons_succ, List.getElem?_cons_zero]; rfl) rfl ?hw2 (fun w1 => ?hy2) ?hn2; (case hw2 => rfl); (case hy2 => (go_simp; (try with_reducible rfl))); (try simp only [Act.put, List.setIfInBounds_toArray, List.set_cons_zero, List.set_cons_succ]))
      (refine TD.val0 (v := ?v3) (by simp only [List.getElem?_toArray, List.getElem?_cons_succ, List.getElem?_cons_zero]; rfl) rfl ?hw3 (fun w1 => ?hy3) ?hn3; (case hw3 => rfl); (case hy3 => (go_simp; (try with_reducible rfl))); (try simp only [Act.put, List.setIfInBounds_toArray, List.set_cons_zero, List.set_cons_succ]))
      (refine TD.val0 (v := ?v4) (by simp only [List.getElem?_toArray, List.getElem?_cons_succ, List.getElem?_cons_zero]; rfl) rfl ?hw4 (fun w1 => ?hy4) ?hn4; (case hw4 => rfl); (case hy4 => (go_simp; (try with_reducible rfl))); (try simp only [Act.put, List.setIfInBounds_toArray, List.set_cons_zero, List.set_cons_succ]))
      (refine TD.val0 (v := ?v5) (by simp only [List.getElem?_toArray, List.getElem?_cons_succ, List.getElem?_cons_zero]; rfl) rfl ?hw5 (fun w1 => ?hy5) ?hn5; (case hw5 => rfl); (case hy5 => (go_simp; (try with_reducible rfl))); (try simp only [Act.put, List.setIfInBounds_toArray, List.set_cons_zero, List.set_cons_succ]))
      (refine TD.load (v := ?v6) (p := ?p6) (Mod.refl _ _) (by simp only [List.getElem?_toArray, List.getElem?_cons_succ, List.getElem?_cons_zero]; rfl) rfl ?hw6 rfl ?hx6 (fun wq hSq => ?hy6) ?hn6; (case hw6 => rfl); (case hx6 => (simp only [Act.eval, Array.getD_eq_getD_getElem?, List.getElem?_toArray, List.getElem?_cons_succ, List.getElem?_cons_zero, Option.getD_some]; (try rfl))); (case hy6 => (have klq := hSq.at kl (fun h => h); go_simp; (try with_reducible rfl))); (try simp only [Act.put, List.setIfInBounds_toArray, List.set_cons_zero, List.set_cons_succ]))
      (refine TD.val0 (v := ?v7) (by simp only [List.getElem?_toArray, List.getElem?_cons_succ, List.getElem?_cons_zero]; rfl) rfl ?hw7 (fun w1 => ?hy7) ?hn7; (case hw7 => rfl); (case hy7 => (go_simp; (try with_reducible rfl))); (try simp only [Act.put, List.setIfInBounds_toArray, List.set_cons_zero, List.set_cons_succ]))
      (refine TD.val0 (v := ?v8) (by simp only [List.getElem?_toArray, List.getElem?_cons_succ, List.getElem?_cons_zero]; rfl) rfl ?hw8 (fun w1 => ?hy8) ?hn8; (case hw8 => rfl); (case hy8 => (go_simp; (try with_reducible rfl))); (try simp only [Act.put, List.setIfInBounds_toArray, List.set_cons_zero, List.set_cons_succ]))
      (refine TD.val0 (v := ?v9) (by simp only [List.getElem?_toArray, List.getElem?_cons_succ, List.getElem?_cons_zero]; rfl) rfl ?hw9 (fun w1 => ?hy9) ?hn9; (case hw9 => rfl); (case hy9 => (go_simp; (try with_reducible rfl))); (try simp only [Act.put, List.setIfInBounds_toArray, List.set_cons_zero, List.set_cons_succ]))
      (refine TD.val0 (v := ?v10) (by simp only [List.getElem?_toArray, List.getElem?_cons_succ, List.getElem?_cons_zero]; rfl) rfl ?hw10 (fun w1 => ?hy10) ?hn10; (case hw10 => rfl); (case hy10 => (go_simp; (try with_reducible rfl))); (try simp only [Act.put, List.setIfInBounds_toArray, List.set_cons_zero, List.set_cons_succ]))
      (refine TD.load (v := ?v11) (p := ?p11) (Mod.refl _ _) (by simp only [List.getElem?_toArray, List.getElem?_cons_succ, List.getElem?_cons_zero]; rfl) rfl ?hw11 rfl ?hx11 (fun wq hSq => ?hy11) ?hn11; (case hw11 => rfl); (case hx11 => (simp only [Act.eval, Array.getD_eq_getD_getElem?, List.getElem?_toArray, List.getElem?_cons_succ, List.getElem?_cons_zero, Option.getD_some]; (try rfl))); (case hy11 => (have klq := hSq.at kl (fun h => h); go_simp; (try with_reducible rfl))); (try simp only [Act.put, List.setIfInBounds_toArray, List.set_cons_zero, List.set_cons_succ]))
      refine TD.eff (by simp only [List.getElem?_toArray, List.getElem?_cons_succ, List.getElem?_cons_zero]; rfl) rfl (fun w2 hr => ?_)
      have kl := hr.mod.at kl (fun h => h)
      have hm2 := hm.then0 hr.mod
      have hput := put_c p b _ xk xa w2 (HT.out.mod0 hr.mod)
      clear hm
      (refine eff_callP (by simp only [List.getElem?_toArray, List.getElem?_cons_succ, List.getElem?_cons_zero]; rfl) ?hw13 ?hy13 hput (fun wn hP => ?hn13); (case hw13 => rfl); (case hy13 => (go_simp; (try (first | with_reducible rfl | (constructor <;> with_reducible rfl))))); (try simp only [Act.put, List.setIfInBounds_toArray, List.set_cons_zero, List.set_cons_succ]))
      refine TE.nil ?_
      obtain ⟨hT3, m3⟩ := hP
      rw [HS.out] at hT3
      have hm3 := hm2.then m3 (fun j hj e => by omega)
      clear hput
      go_wp2_with fail
      go_roundw
      case rel => exact ⟨i + 1, by omega, by go_num, hT3, hm3⟩
      case measure => simp [intOf]; omega
    · obtain rfl : i = l.length := by omega
      rw [List.take_length] at hT
      have HT := Lib.hid hT
      clear hT h
      go_wp2_with fail
      go_ret
      exact ⟨p, b, rfl, hp, hb, HT.out, hm⟩
end Go.Proofs.Ytknmiojegnbakaa
