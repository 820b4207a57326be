/- The document's own graph: blocker, Chain, Ready. -/
import Derived.Test.YtffcnnogkpdinaaRq1
namespace Go.Proofs.Ytffcnnogkpdinaa
open Go.RowKit
open Go.ChangeMaps (setBlock)
set_option linter.unusedSimpArgs false
set_option linter.unusedVariables false
attribute [local go_sem ↓] wlKey wlRole ldKey ldRole stKey stRole eqKey1
attribute [local go_sem] zKey_size zRole_size kc_ext rc_size rc_key rc_all rc_s rc_w rc_s' rc_w' rc_one one_int one_bool one_ptr one_slice one_map kc_one kc_one0 cell_blk frozen_blk Value.cells eqMap neMap
/-- The nodes, as what they are. -/
def rnsOf (L : List Nq) : List Rn := L.map Nq.x
set_option maxHeartbeats 3200000 in
theorem blocker_c {p : Nat} {L : List Nq} {T : Nat → Prop} {w : World} (h : RQ p L T w) (n : Nat) (hn : n ≤ L.length) (hL : L.length ≤ 900000) (a : Option Addr) (l : List Role) (c : Nat) (hl : RolesAt w a l) (hll : l.length ≤ 1000) : Calls Try.prog 34 #[ptrV p, .int .i64 (n : Int), .slice a l.length c] w fun e w' =>
    ((∃ (i : Nat) (y : Nq), e = .returned (.int .i64 (i : Int)) ∧ i < n ∧ L[i]? = some y ∧ conf y.x.l l = true ∧ (((rnsOf L).take n).filter fun y => conf y.l l).getLast? = some y.x) ∨ (e = .returned (.int .i64 (-1)) ∧ ((rnsOf L).take n).any (fun y => conf y.l l) = false)) ∧ Mod (fun _ => False) w w' := by
  obtain ⟨av, cv, kr, hs⟩ := h.sl
  have HRo := Lib.hid h.roles
  have HS := Lib.hid hs
  have HL := Lib.hid hl
  clear h hs hl
  have hw0 : IntKind.i64.wrap ((n : Int) - 1) = (n : Int) - 1 := by
    rw [IntKind.wrap_i64]
    omega
  go_enter Try.func34, Try.ntmps34
  go_wp2_with fail
  go_loopw [7] (fun s7 ws => ∃ i : Nat, i ≤ n ∧ s7 = .int .i64 ((i : Int) - 1) ∧ Hid (∀ j y, i ≤ j → j < n → L[j]? = some y → conf y.x.l l = false) ∧ Mod (fun _ => False) w ws) (fun s7 _ => (intOf s7 + 1).toNat)
  case atStart => exact ⟨n, Nat.le_refl _, rfl, Lib.hid (fun j y h1 h2 => by omega), Mod.refl _ _⟩
  case round =>
    obtain ⟨i, hi, rfl, HG, hm⟩ := hrel
    have kr := hm.at0 kr
    cases i with
    | zero =>
      have hd : decide ((0 : Int) ≤ ((0 : Nat) : Int) - 1) = false := by decide
      rw [show (((0 : Nat) : Int) - 1) = -1 from rfl]
      go_wp2_with fail
      go_ret
      refine ⟨.inr ⟨rfl, lastHit_none fun j y hj hy => ?_⟩, hm⟩
      unfold rnsOf at hy
      rw [List.getElem?_map] at hy
      cases hz : L[j]? with
      | none => rw [hz] at hy; cases hy
      | some z =>
        rw [hz] at hy
        cases hy
        exact HG.out j z (by omega) hj hz
    | succ i =>
      rw [show (((i + 1 : Nat) : Int) - 1) = (i : Int) by omega]
      obtain ⟨y, hy⟩ : ∃ y, L[i]? = some y := ⟨_, List.getElem?_eq_getElem (by omega)⟩
      obtain ⟨g, o, C, U, fr, rfl, kl, _, _, hr2⟩ := nq_at (HS.out.mod0 hm) hy
      have HY := Lib.hid (And.intro hy (HRo.out y (List.mem_of_getElem? hy)))
      have hlt : i < L.length := by omega
      have hd : decide ((0 : Int) ≤ (i : Int)) = true := decide_eq_true (by omega)
      have hw1 : IntKind.i64.wrap ((i : Int) - 1) = (i : Int) - 1 := by
        rw [IntKind.wrap_i64]
        omega
      clear hy
      go_wp2_with fail
      go_at_call 41
      refine (hits_c y.a a y.x.l l _ _ _ (SlAt.mod0 HY.out.2.1 hm) (SlAt.mod0 HL.out hm) (by have := HY.out.2.2; omega) (by omega)).mono ?_
      rintro e w2 ⟨rfl, hm2⟩
      have hm := hm.then0 hm2
      clear hm2
      cases hc : conf y.x.l l with
      | true =>
        have HC := Lib.hid hc
        clear hc
        go_wp2_with fail
        go_ret
        refine ⟨.inl ⟨i, y, rfl, by omega, HY.out.1, HC.out, ?_⟩, hm⟩
        refine lastHit_some (i := i) (by omega) ?_ HC.out fun j z h1 h2 hz => ?_
        · unfold rnsOf
          rw [List.getElem?_map, HY.out.1]
          rfl
        · unfold rnsOf at hz
          rw [List.getElem?_map] at hz
          cases hq : L[j]? with
          | none => rw [hq] at hz; cases hz
          | some q =>
            rw [hq] at hz
            cases hz
            exact HG.out j q (by omega) h2 hq
      | false =>
        have HC := Lib.hid hc
        clear hc
        go_wp2_with fail
        go_roundw
        case rel => exact ⟨i, by omega, rfl, Lib.hid (fun j z h1 h2 hz => by
          by_cases e : j = i
          · subst e
            rw [HY.out.1] at hz
            cases hz
            exact HC.out
          · exact HG.out j z (by omega) h2 hz), hm⟩
        case measure => simp [intOf]
set_option maxHeartbeats 1600000 in
theorem qchain_c {p : Nat} {L : List Nq} {T : Nat → Prop} {w : World} (h : RQ p L T w) (id : Int64) (hL : L.length ≤ 900000) : Calls Try.prog 21 #[ptrV p, .int .i64 id.toInt] w fun e w' =>
    ((∃ y ∈ L, y.x.id = id ∧ e = .returned (.tuple #[.int .i64 y.x.ch.toInt, .int .i64 0])) ∨ ((∀ y ∈ L, y.x.id ≠ id) ∧ e = .returned (.tuple #[.int .i64 0, .int .i64 11]))) ∧ Mod (fun _ => False) w w' := by
  obtain ⟨av, cv, kr, hs⟩ := h.sl
  have HS := Lib.hid hs
  have HH := Lib.hid h
  clear h hs
  go_enter Try.func21, Try.ntmps21
  go_wp2_with fail
  go_at_call 33
  refine (qat_c HH.out id hL).mono ?_
  rintro e w2 ⟨hc, hm⟩
  have kr := hm.at0 kr
  rcases hc with ⟨i, y, rfl, hy, hid⟩ | ⟨rfl, hno⟩
  · obtain ⟨g, o, C, U, fr, rfl, kl, _, hr1, _⟩ := nq_at (HS.out.mod0 hm) hy
    have hlt : i < L.length := (List.getElem?_eq_some_iff.1 hy).1
    have hd : decide ((i : Int) < 0) = false := decide_eq_false (by omega)
    have HY := Lib.hid (And.intro (List.mem_of_getElem? hy) hid)
    clear hy hid
    go_wp2_with fail
    exact bodyPost_ret (results_tmp2 rfl _ _ _) rfl ⟨.inl ⟨y, HY.out.1, HY.out.2, rfl⟩, hm⟩
  · have HN := Lib.hid hno
    clear hno
    go_wp2_with fail
    exact bodyPost_ret (results_tmp2 rfl _ _ _) rfl ⟨.inr ⟨HN.out, rfl⟩, hm⟩
theorem rns_take {L : List Nq} {i : Nat} {y : Nq} (h : L[i]? = some y) : (rnsOf L).take (i + 1) = (rnsOf L).take i ++ [y.x] := by
  unfold rnsOf
  rw [List.take_add_one, List.getElem?_map, h]
  rfl
set_option maxRecDepth 20000 in
set_option maxHeartbeats 3200000 in
theorem qready_c {p : Nat} {L : List Nq} {T : Nat → Prop} {w : World} (h : RQ p L T w) (hL : L.length ≤ 900) : Calls Try.prog 20 #[ptrV p] w fun e w' =>
    ∃ v, e = .returned v ∧ SlOwn ic 1 3 w' w.heap.size v (readyR (rnsOf L)) ∧ Mod (fun _ => False) w w' := by
  obtain ⟨av, cv, kr, hs⟩ := h.sl
  have HRo := Lib.hid h.roles
  have HS := Lib.hid hs
  have HH := Lib.hid h
  clear h hs
  go_enter Try.func20, Try.ntmps20
  go_wp2_with fail
  go_loopw [3, 4] (fun s3 s4 ws => ∃ i : Nat, i ≤ L.length ∧ s4 = .int .i64 (i : Int) ∧ SlOwn ic 1 3 ws w.heap.size s3 (readyR ((rnsOf L).take i)) ∧ Mod (fun _ => False) w ws) (fun s3 s4 _ => L.length - (intOf s4).toNat)
  case atStart => exact ⟨0, Nat.zero_le _, rfl, SlOwn.nil _ _, Mod.refl _ _⟩
  case round =>
    obtain ⟨i, hi, rfl, hO, hm⟩ := hrel
    have kr := hm.at0 kr
    by_cases hlt : i < L.length
    · obtain ⟨y, hy⟩ : ∃ y, L[i]? = some y := ⟨_, List.getElem?_eq_getElem hlt⟩
      have hd : decide ((i : Int) < (L.length : Int)) = true := decide_eq_true (by omega)
      obtain ⟨g, o, C, U, fr, rfl, kl, hr0, _, hr2⟩ := nq_at (HS.out.mod0 hm) hy
      have HY := Lib.hid (And.intro (HRo.out y (List.mem_of_getElem? hy)) (rns_take hy))
      obtain ⟨ao, co, rfl, _⟩ := hO.at intT
      have HO := Lib.hid hO
      have hrl := ready_len ((rnsOf L).take i)
      rw [List.length_take] at hrl
      have hrl2 : (readyR ((rnsOf L).take i)).length ≤ 900 := by omega
      clear hy hO hrl
      generalize hrn : (readyR ((rnsOf L).take i)).length = rn at *
      have HRN := Lib.hid hrn
      clear hrn
      go_wp2_with fail
      go_at_call 34
      refine (blocker_c (HH.out.mod0 hm) i (by omega) (by omega) y.a y.x.l y.c (SlAt.mod0 HY.out.1.1 hm) (by have := HY.out.1.2; omega)).mono ?_
      rintro e w2 ⟨hc, hm2⟩
      have hs2 := HY.out.2
      rcases hc with ⟨j, z, rfl, hj, hz, hcf, _⟩ | ⟨rfl, hno⟩
      · have hdj : decide ((j : Int) < 0) = false := decide_eq_false (by omega)
        have HE : Hid (readyR ((rnsOf L).take (i + 1)) = readyR ((rnsOf L).take i)) := Lib.hid (by
          rw [hs2, ready_snoc, if_pos, List.append_nil]
          refine List.any_eq_true.2 ⟨z.x, ?_, hcf⟩
          refine List.mem_iff_getElem?.2 ⟨j, ?_⟩
          rw [List.getElem?_take, if_pos hj]
          unfold rnsOf
          rw [List.getElem?_map, hz]
          rfl)
        clear hz hcf hs2
        have hm3 := hm.then0 hm2
        have HO3 := Lib.hid (HO.out.mod0 hm2)
        clear hm2
        go_wp2_with fail
        go_roundw
        case rel => exact ⟨i + 1, by omega, by go_num, by rw [HE.out]; exact HO3.out, hm3⟩
        case measure => simp [intOf]; omega
      · have HE : Hid (readyR ((rnsOf L).take (i + 1)) = readyR ((rnsOf L).take i) ++ [y.x.id]) := Lib.hid (by
          rw [hs2, ready_snoc, if_neg (by rw [hno]; simp)])
        clear hno hs2
        have kr := hm2.at0 kr
        have kl := hm2.at0 kl
        have hm3 := hm.then0 hm2
        have HO3 := Lib.hid (HO.out.mod0 hm2)
        clear hm2
        have hbs := bsInt y.x.id w2
        have mal := (Mod.refl (fun _ => False) w2).alloc (.cells (ic y.x.id) 3)
        have hone := oneInt w2 y.x.id
        obtain ⟨v5, w5, hap, hO5, m5, _⟩ := SlOwn.append intT (q := [y.x.id]) (c := 1) (HO3.out.mod0 mal) hone (by rw [HRN.out, List.length_singleton]; omega) (by decide) (Nat.le_trans hm3.size mal.size) 36
        have hap : (Builtin.append_ #[36, 36] 36 #[.slice ao rn co, .slice (some ⟨w2.heap.size, 0, none⟩) 1 1]).run Try.prog _ = _ := hap
        have hol := HO3.out.lt
        have mm5 : Mod (fun _ => False) w w5 := (hm3.then0 mal).then m5 (fun z hz e => by have := (hol z e).1; omega)
        have HO5 := Lib.hid (And.intro hO5 mm5)
        clear hol m5 mal hone hO5 mm5
        go_upto_region 6 with fail
        refine region_seq 12 rfl ?_
        simp only [List.range, List.range.loop]
        (refine sq_val (v := ?v1) (by simp only [List.getElem?_toArray, List.getElem?_cons_succ, List.getElem?_cons_zero]; rfl) ?hw1 ?hy1 ?hn1; (case hw1 => rfl); (case hy1 => (go_simp; (try with_reducible rfl))); (try simp only [Act.put, List.setIfInBounds_toArray, List.set_cons_zero, List.set_cons_succ]))
        (refine sq_val (v := ?v2) (by simp only [List.getElem?_toArray, List.getElem?_cons_succ, List.getElem?_cons_zero]; rfl) ?hw2 ?hy2 ?hn2; (case hw2 => rfl); (case hy2 => (go_simp; (try with_reducible rfl))); (try simp only [Act.put, List.setIfInBounds_toArray, List.set_cons_zero, List.set_cons_succ]))
        (refine sq_val (v := ?v3) (by simp only [List.getElem?_toArray, List.getElem?_cons_succ, List.getElem?_cons_zero]; rfl) ?hw3 ?hy3 ?hn3; (case hw3 => rfl); (case hy3 => (go_simp; (try with_reducible rfl))); (try simp only [Act.put, List.setIfInBounds_toArray, List.set_cons_zero, List.set_cons_succ]))
        (refine sq_val (v := ?v4) (by simp only [List.getElem?_toArray, List.getElem?_cons_succ, List.getElem?_cons_zero]; rfl) ?hw4 ?hy4 ?hn4; (case hw4 => rfl); (case hy4 => (go_simp; (try with_reducible rfl))); (try simp only [Act.put, List.setIfInBounds_toArray, List.set_cons_zero, List.set_cons_succ]))
        (refine sq_load (v := ?v5) (p := ?p5) (by simp only [List.getElem?_toArray, List.getElem?_cons_succ, List.getElem?_cons_zero]; rfl) ?hw5 rfl ?hx5 ?hy5 ?hn5; (case hw5 => rfl); (case hx5 => (simp only [Act.eval, Array.getD_eq_getD_getElem?, List.getElem?_toArray, List.getElem?_cons_succ, List.getElem?_cons_zero, Option.getD_some]; (try rfl))); (case hy5 => (go_simp; (try with_reducible rfl))); (try simp only [Act.put, List.setIfInBounds_toArray, List.set_cons_zero, List.set_cons_succ]))
        (refine sq_val (v := ?v6) (by simp only [List.getElem?_toArray, List.getElem?_cons_succ, List.getElem?_cons_zero]; rfl) ?hw6 ?hy6 ?hn6; (case hw6 => rfl); (case hy6 => (go_simp; (try with_reducible rfl))); (try simp only [Act.put, List.setIfInBounds_toArray, List.set_cons_zero, List.set_cons_succ]))
        (refine sq_val (v := ?v7) (by simp only [List.getElem?_toArray, List.getElem?_cons_succ, List.getElem?_cons_zero]; rfl) ?hw7 ?hy7 ?hn7; (case hw7 => rfl); (case hy7 => (go_simp; (try with_reducible rfl))); (try simp only [Act.put, List.setIfInBounds_toArray, List.set_cons_zero, List.set_cons_succ]))
        (refine sq_val (v := ?v8) (by simp only [List.getElem?_toArray, List.getElem?_cons_succ, List.getElem?_cons_zero]; rfl) ?hw8 ?hy8 ?hn8; (case hw8 => rfl); (case hy8 => (go_simp; (try with_reducible rfl))); (try simp only [Act.put, List.setIfInBounds_toArray, List.set_cons_zero, List.set_cons_succ]))
        (refine sq_load (v := ?v9) (p := ?p9) (by simp only [List.getElem?_toArray, List.getElem?_cons_succ, List.getElem?_cons_zero]; rfl) ?hw9 rfl ?hx9 ?hy9 ?hn9; (case hw9 => rfl); (case hx9 => (simp only [Act.eval, Array.getD_eq_getD_getElem?, List.getElem?_toArray, List.getElem?_cons_succ, List.getElem?_cons_zero, Option.getD_some]; (try rfl))); (case hy9 => (go_simp; (try with_reducible rfl))); (try simp only [Act.put, List.setIfInBounds_toArray, List.set_cons_zero, List.set_cons_succ]))
        (refine sq_build (by simp only [List.getElem?_toArray, List.getElem?_cons_succ, List.getElem?_cons_zero]; rfl) ?hw10 rfl ?hx10 hbs ?hn10; (case hw10 => rfl); (case hx10 => (simp only [List.map_toArray, List.map_cons, List.map_nil, Act.eval, Array.getD_eq_getD_getElem?, List.getElem?_toArray, List.getElem?_cons_succ, List.getElem?_cons_zero, Option.getD_some]; (try rfl))); (try simp only [Act.put, List.setIfInBounds_toArray, List.set_cons_zero, List.set_cons_succ]))
        (refine sq_append (by simp only [List.getElem?_toArray, List.getElem?_cons_succ, List.getElem?_cons_zero]; rfl) ?hw11 rfl ?hx11 ?hz11 hap ?hn11; (case hw11 => rfl); (case hx11 => (simp only [Act.eval, Array.getD_eq_getD_getElem?, List.getElem?_toArray, List.getElem?_cons_succ, List.getElem?_cons_zero, Option.getD_some]; (try rfl))); (case hz11 => (simp only [Act.eval, Array.getD_eq_getD_getElem?, List.getElem?_toArray, List.getElem?_cons_succ, List.getElem?_cons_zero, Option.getD_some]; (try rfl))); (try simp only [Act.put, List.setIfInBounds_toArray, List.set_cons_zero, List.set_cons_succ]))
        (refine sq_val (v := ?v12) (by simp only [List.getElem?_toArray, List.getElem?_cons_succ, List.getElem?_cons_zero]; rfl) ?hw12 ?hy12 ?hn12; (case hw12 => rfl); (case hy12 => (go_simp; (try with_reducible rfl))); (try simp only [Act.put, List.setIfInBounds_toArray, List.set_cons_zero, List.set_cons_succ]))
        refine sq_nil ?_
        clear hap hbs
        go_wp2_with fail
        go_roundw
        case rel => exact ⟨i + 1, by omega, by go_num, by rw [HE.out]; exact HO5.out.1, HO5.out.2⟩
        case measure => simp [intOf]; omega
    · obtain rfl : i = L.length := by omega
      have hd : decide ((L.length : Int) < (L.length : Int)) = false := decide_eq_false (by omega)
      have HO := Lib.hid hO
      clear hO hlt
      go_wp2_with fail
      go_ret
      refine ⟨_, rfl, ?_, hm⟩
      have h1 := HO.out
      rw [List.take_of_length_le (by unfold rnsOf; rw [List.length_map]; exact Nat.le_refl _)] at h1
      exact h1
end Go.Proofs.Ytffcnnogkpdinaa
