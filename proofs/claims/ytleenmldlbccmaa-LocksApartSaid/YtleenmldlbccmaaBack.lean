/- LocksBack: given back all that was taken, in any order, the table is free, and any worker may take anything. -/
import Derived.Test.YtleenmldlbccmaaBlocks
import Derived.Test.YtleenmldlbccmaaHave
namespace Go.Proofs.Ytleenmldlbccmaa
open Go.RowKit
open Go.ChangeMaps (setBlock)
set_option linter.unusedSimpArgs false
set_option linter.unusedVariables false
theorem ldAct (w : World) (b o : Nat) : (Instr.loadAt 34 (.pointer (some ⟨b, o, none⟩))).run Try.prog w =
      match w.heap[b]? with
      | some (.cells cs _ _) => if o + 3 ≤ cs.size then .ok (.agg (cs.extract o (o + 3))) w else farL Try.prog w 34 b o
      | _ => farL Try.prog w 34 b o := load_rule (d := _) Try.underlying34 rfl (by kernel_rfl) w b o
theorem stAct (w : World) (b o : Nat) (xs : Array Value) : (Instr.storeAt 34 (.pointer (some ⟨b, o, none⟩)) (.agg xs)).run Try.prog w =
      match w.heap[b]? with
      | some (.cells cs U (0, 0)) =>
        if o + 3 ≤ cs.size ∧ xs.size = 3 ∧ xs.all (·.oneCell') = true then .ok () (setBlock w b (.cells (if o = 0 ∧ 3 = cs.size then xs else wr cs o xs.toList) U (0, 0))) else farS Try.prog w 34 b o (.agg xs)
      | _ => farS Try.prog w 34 b o (.agg xs) := store_rule (by kernel_rfl) w b o xs
theorem wlAct (dst : Option Tmp) (x : Operand) (ty : TypeId) (pos : String) (after : Array Edge) (g : Option (Nat × Bool)) (a : Act) (w : World) (K : Act → World → Prop) (Q : Exit → Act → World → Prop) :
    Oper.wp Try.prog { dst := dst, op := .load 34 x, type := ty, pos := pos, after := after, guard := g } a w K Q =
      (match a.eval x with
      | .pointer (some ⟨b, o, none⟩) =>
        (match w.heap[b]? with
        | some (.cells cs _ _) => if o + 3 ≤ cs.size then K (a.put dst (.agg (cs.extract o (o + 3)))) w else farW Try.prog { dst := dst, op := .load 34 x, type := ty, pos := pos, after := after, guard := g } a w K Q
        | _ => farW Try.prog { dst := dst, op := .load 34 x, type := ty, pos := pos, after := after, guard := g } a w K Q)
      | _ => farW Try.prog { dst := dst, op := .load 34 x, type := ty, pos := pos, after := after, guard := g } a w K Q) := wp_load_rule (d := _) Try.underlying34 rfl (by kernel_rfl) dst x ty pos after g a w K Q
theorem alAct (w : World) : (Instr.alloc 34 true (.tuple #[])).run Try.prog w = .ok (.pointer (some ⟨w.heap.size, 0, none⟩)) (w.alloc (.cells #[.bool false,.slice none 0 0,.int .i64 0] 34)) :=
  run_alloc_row (z := .agg #[.bool false,.slice none 0 0,.int .i64 0]) (fun w => by kernel_rfl) w
attribute [local go_sem ↓] wlAct ldAct stAct wlKey wlRole wlSpot wlCounts wlBits ldKey ldRole ldSpot ldCounts ldBits stKey stRole stSpot stCounts stBits eqCounts eqBits eqKey1
attribute [local go_sem] eqBlk zKey_size zRole_size eqHeld cell_blk frozen_blk kc_ext rc_size rc_key rc_all rc_s rc_w rc_s' rc_w' rc_one sc_size sc_key sc_all sc_n sc_n' sc_one one_int one_bool one_ptr one_slice one_map zSpot_size kc_one kc_one0 Value.cells
theorem SlAt.modT {α : Type} {f : α → Array Value} {m : Nat} {w w' : World} {t hb wb n : Nat} {L : List Lk} {a : Option Addr} {l : List α} (h : SlAt f m w a l) (ht : TabAt w t hb wb n L) (hm : Mod (fun i => i = hb ∨ i = wb) w w') : SlAt f m w' a l := by
  obtain ⟨_, _, eh, ch, ew, cw, mh, mw, kh, _, kw, _, _⟩ := ht
  refine h.modM hm ?_
  rintro b (rfl | rfl) C U fr e
  · rw [kh] at e; cases e
  · rw [kw] at e; cases e
set_option maxRecDepth 20000 in
set_option maxHeartbeats 6400000 in
theorem back_c (m : Int) (a : Option Addr) (l : List Act') (c : Nat) (at_ : Int) (w : World) (hl : SlAt acv 3 w a l) (hlm : l.length ≤ 140737488355328) (hok : ∀ x ∈ l, ActOk' w x) (hm0 : 0 ≤ m) (hm1 : m ≤ 255) (ha0 : 0 ≤ at_) (ha1 : at_ ≤ 255) :
    Calls Try.prog 6 #[.int .u8 m, .slice a l.length c, .int .u8 at_] w fun e w' => e = .returned (.bool true) ∧ Mod (fun _ => False) w w' := by
  have hgr := great_c a l c w hl hlm (fun x hx => len_small (hok x hx))
  have HG := Lib.hid hgr
  have HOK := Lib.hid hok
  clear hgr hok
  obtain ⟨N, hN, hN1, hN2⟩ : ∃ N : Nat, (N : Int) = 1 + m % 64 ∧ 1 ≤ N ∧ N ≤ 64 := ⟨(1 + m % 64).toNat, by omega, by omega, by omega⟩
  obtain ⟨at_, rfl⟩ : ∃ A : Nat, at_ = (A : Int) := ⟨at_.toNat, by omega⟩
  go_enter Try.func6, Try.ntmps6
  go_wp2_with fail
  go_at_call 9
  refine HG.out.mono ?_
  rintro e w' ⟨b, rfl, hsz, rfl⟩
  clear HG
  rw [← hN]
  clear hN
  cases b with
  | true =>
    go_wp2_with (go_at_call 10; refine (lives_c _).mono ?_; rintro e w' ⟨rfl, hm2⟩)
    go_ret
    exact ⟨rfl, hm2⟩
  | false =>
    replace hsz := hsz rfl
    go_wp2_with fail
    go_at_call 11
    refine (new_c N w hN1 hN2).mono ?_
    rintro e w1 ⟨t, hb, wb, rfl, ht, hhb, hwb, hT, m1⟩
    obtain ⟨Lt, Lh, Lw⟩ := hT.lt
    go_wp2_with fail
    go_loopw [10, 11] (fun s10 s11 wr => ∃ (i : Nat) (H : List Hv), i ≤ l.length ∧ s11 = .int .i64 i ∧ TabAt wr t hb wb N (locksH H) ∧ SlOwn hv 3 34 wr w1.heap.size s10 H ∧ H.length ≤ i ∧ Hid ((locksH H).length ≤ (allOf (l.take i)).length) ∧ (∀ h ∈ H, h.2.val < N ∧ RolesAt w h.1.a h.1.l) ∧ w1.heap.size ≤ wr.heap.size ∧ Mod (fun _ => False) w wr) (fun _ s11 _ => l.length - (intOf s11).toNat)
    case atStart => exact ⟨0, [], by omega, rfl, hT, SlOwn.nil _ _, by simp, Lib.hid (by simp [locksH]), fun h hh => (by cases hh), Nat.le_refl _, m1⟩
    case round =>
      clear hT
      obtain ⟨i, H, hi, rfl, hT, hown, hHi, HLn, hH, hge, hm⟩ := hrel
      by_cases hlt : i < l.length
      · obtain ⟨x, hx⟩ : ∃ x, l[i]? = some x := ⟨_, List.getElem?_eq_getElem hlt⟩
        obtain ⟨g, o, C, U, fr, rfl, kl, he, hle⟩ := (hl.mod0 hm).block hx
        have hC1 : C[o + i * 3 + 1]? = some x.s.v := cellC he (j := 1) rfl
        have hC2 : C[o + i * 3 + 2]? = some (.int .i64 x.n) := cellC he (j := 2) rfl
        have hlg : g < w.heap.size := by
          obtain ⟨g', o', C', U', fr', ha', kl', _, _⟩ := hl.block hx
          cases ha'
          exact lt_size kl'
        have HX := HOK.out x (List.mem_of_getElem? hx)
        have hxr : RolesAt w x.s.a x.s.l := HX.1.1
        have HS := Lib.hid (allOf_snoc l i x hx)
        have hxl : x.s.l.length ≤ 400 := Nat.le_trans (len_of_mem (List.mem_of_getElem? hx)) hsz
        have hal : (allOf (l.take i)).length ≤ 400 := by have := allOf_len l i; omega
        have hLl : (locksH H).length ≤ 400 := by have := HLn.out; omega
        have hl400 : l.length ≤ 400 := by have := allOf_len l i; omega
        clear he hx HX
        obtain ⟨xb, xs, xn⟩ := x
        dsimp only at hC1 hC2 hxr hxl HS
        obtain ⟨z, hz, hz63⟩ := and63 xn
        obtain ⟨wi, hwi, hwN⟩ : ∃ wi : Fin 64, (z : Int) % (N : Int) = (wi.val : Int) ∧ wi.val < N := ⟨⟨z % N, by have := Nat.mod_lt z (show 0 < N by omega); omega⟩, by simp, Nat.mod_lt _ (by omega)⟩
        have HO := Lib.hid hown
        have HH := Lib.hid hH
        have HT := Lib.hid hT
        clear hown hH hT
        have htk := take_m t hb wb N (locksH H) xs.a xs.l xs.c wi wr HT.out hN1 hN2 (hxr.mod0 hm) (by omega) hwN
        unfold TakePost at htk
        have hol := HO.out.lt
        obtain ⟨Lt2, Lh2, Lw2⟩ := HT.out.lt
        unfold Sl.v at hC1
        cases hfr : freeB (locksH H) xs.l wi.val with
        | true =>
          simp only [hfr, if_true] at htk
          have HK := Lib.hid htk
          clear htk hfr hol
          go_wp2_with fail
          go_at_call 17
          refine HK.out.mono ?_
          clear HK
          rintro e w3 ⟨rfl, hT3, m3⟩
          have hs3 := m3.size
          have kl3 := m3.at kl (by omega)
          have hO3 := HO.out.mod m3 (fun k hk e => by have := (HO.out.lt k hk).1; rcases e with rfl | rfl <;> omega)
          have mm3 := hm.then m3 (fun j hj e => by rcases e with rfl | rfl <;> omega)
          clear kl
          have hbs := bsAct xs wi w3
          unfold Sl.v at hbs
          have hO4 := hO3.mod0 ((Mod.refl _ w3).alloc (.cells (hv (xs, wi)) 34))
          have hT4 := hT3.mod0 ((Mod.refl _ w3).alloc (.cells (hv (xs, wi)) 34))
          have mm4 := mm3.then0 ((Mod.refl _ w3).alloc (.cells (hv (xs, wi)) 34))
          have hs4 := ((Mod.refl (fun _ => False) w3).alloc (.cells (hv (xs, wi)) 34)).size
          obtain ⟨v5, w5, hap, hO5, m5, _⟩ := SlOwn.append haveT (q := [(xs, wi)]) (c := 1) hO4 (SlAt.one (heap_alloc_new _ _) (xs, wi) rfl rfl) (by simp only [List.length_cons, List.length_nil]; omega) (by omega) (by omega) 22
          have hap : (Builtin.append_ #[22, 22] 22 #[_, .slice (some ⟨w3.heap.size, 0, none⟩) 1 1]).run Try.prog _ = _ := hap
          have hol := hO4.lt
          obtain ⟨Lt4, Lh4, Lw4⟩ := hT4.lt
          have hT5 := hT4.out m5 (fun e => by have := (hol _ e).1; omega) (fun e => by have := (hol _ e).1; omega) (fun e => by have := (hol _ e).1; omega)
          have mm5 := mm4.then m5 (fun j hj e => by have := (hol _ e).1; omega)
          have hs5 := m5.size
          have HT5 : Hid (TabAt w5 t hb wb N (locksH (H ++ [(xs, wi)]))) := Lib.hid (hT5.perm (fun x => by
            rw [locksH_append, List.count_append, addL_count]
            simp [locksH]))
          have HL5 : Hid ((locksH (H ++ [(xs, wi)])).length ≤ (allOf (l.take (i + 1))).length) := Lib.hid (by
            rw [HS.out, locksH_append, List.length_append, List.length_append]
            have := HLn.out
            simp [locksH, locksOf_len] at this ⊢
            omega)
          have HO5 := Lib.hid hO5
          clear hO5 hT5 hol hT3 hT4 hO3 hO4 m3 m5
          go_upto_region 13 with fail
          refine region_seq 11 rfl ?_
          simp only [List.range, List.range.loop]
          (refine sq_val (v := ?v1) (by simp only [List.getElem?_toArray, List.getElem?_cons_succ, List.getElem?_cons_zero]; rfl) ?hw1 ?hy1 ?hn1; (case hw1 => rfl); (case hy1 => (go_simp; (try with_reducible rfl))); (try simp only [Act.put, List.setIfInBounds_toArray, List.set_cons_zero, List.set_cons_succ]))
          (refine sq_val (v := ?v2) (by simp only [List.getElem?_toArray, List.getElem?_cons_succ, List.getElem?_cons_zero]; rfl) ?hw2 ?hy2 ?hn2; (case hw2 => rfl); (case hy2 => (go_simp; (try with_reducible rfl))); (try simp only [Act.put, List.setIfInBounds_toArray, List.set_cons_zero, List.set_cons_succ]))
          (refine sq_val (v := ?v3) (by simp only [List.getElem?_toArray, List.getElem?_cons_succ, List.getElem?_cons_zero]; rfl) ?hw3 ?hy3 ?hn3; (case hw3 => rfl); (case hy3 => (go_simp; (try with_reducible rfl))); (try simp only [Act.put, List.setIfInBounds_toArray, List.set_cons_zero, List.set_cons_succ]))
          (refine sq_val (v := ?v4) (by simp only [List.getElem?_toArray, List.getElem?_cons_succ, List.getElem?_cons_zero]; rfl) ?hw4 ?hy4 ?hn4; (case hw4 => rfl); (case hy4 => (go_simp; (try with_reducible rfl))); (try simp only [Act.put, List.setIfInBounds_toArray, List.set_cons_zero, List.set_cons_succ]))
          (refine sq_val (v := ?v5) (by simp only [List.getElem?_toArray, List.getElem?_cons_succ, List.getElem?_cons_zero]; rfl) ?hw5 ?hy5 ?hn5; (case hw5 => rfl); (case hy5 => (go_simp; (try with_reducible rfl))); (try simp only [Act.put, List.setIfInBounds_toArray, List.set_cons_zero, List.set_cons_succ]))
          (refine sq_load (v := ?v6) (p := ?p6) (by simp only [List.getElem?_toArray, List.getElem?_cons_succ, List.getElem?_cons_zero]; rfl) ?hw6 rfl ?hx6 ?hy6 ?hn6; (case hw6 => rfl); (case hx6 => (simp only [Act.eval, Array.getD_eq_getD_getElem?, List.getElem?_toArray, List.getElem?_cons_succ, List.getElem?_cons_zero, Option.getD_some]; (try rfl))); (case hy6 => (go_simp; (try with_reducible rfl))); (try simp only [Act.put, List.setIfInBounds_toArray, List.set_cons_zero, List.set_cons_succ]))
          (refine sq_val (v := ?v7) (by simp only [List.getElem?_toArray, List.getElem?_cons_succ, List.getElem?_cons_zero]; rfl) ?hw7 ?hy7 ?hn7; (case hw7 => rfl); (case hy7 => (go_simp; (try with_reducible rfl))); (try simp only [Act.put, List.setIfInBounds_toArray, List.set_cons_zero, List.set_cons_succ]))
          (refine sq_val (v := ?v8) (by simp only [List.getElem?_toArray, List.getElem?_cons_succ, List.getElem?_cons_zero]; rfl) ?hw8 ?hy8 ?hn8; (case hw8 => rfl); (case hy8 => (go_simp; (try with_reducible rfl))); (try simp only [Act.put, List.setIfInBounds_toArray, List.set_cons_zero, List.set_cons_succ]))
          (refine sq_build (by simp only [List.getElem?_toArray, List.getElem?_cons_succ, List.getElem?_cons_zero]; rfl) ?hw9 rfl ?hx9 hbs ?hn9; (case hw9 => rfl); (case hx9 => (simp only [List.map_toArray, List.map_cons, List.map_nil, Act.eval, Array.getD_eq_getD_getElem?, List.getElem?_toArray, List.getElem?_cons_succ, List.getElem?_cons_zero, Option.getD_some]; (try rfl))); (try simp only [Act.put, List.setIfInBounds_toArray, List.set_cons_zero, List.set_cons_succ]))
          (refine sq_append (by simp only [List.getElem?_toArray, List.getElem?_cons_succ, List.getElem?_cons_zero]; rfl) ?hw10 rfl ?hx10 ?hz10 hap ?hn10; (case hw10 => rfl); (case hx10 => (simp only [Act.eval, Array.getD_eq_getD_getElem?, List.getElem?_toArray, List.getElem?_cons_succ, List.getElem?_cons_zero, Option.getD_some]; (try rfl))); (case hz10 => (simp only [Act.eval, Array.getD_eq_getD_getElem?, List.getElem?_toArray, List.getElem?_cons_succ, List.getElem?_cons_zero, Option.getD_some]; (try rfl))); (try simp only [Act.put, List.setIfInBounds_toArray, List.set_cons_zero, List.set_cons_succ]))
          (refine sq_val (v := ?v11) (by simp only [List.getElem?_toArray, List.getElem?_cons_succ, List.getElem?_cons_zero]; rfl) ?hw11 ?hy11 ?hn11; (case hw11 => rfl); (case hy11 => (go_simp; (try with_reducible rfl))); (try simp only [Act.put, List.setIfInBounds_toArray, List.set_cons_zero, List.set_cons_succ]))
          refine sq_nil ?_
          clear hap hbs kl3
          go_wp2_with fail
          go_roundw
          case rel => exact ⟨i + 1, H ++ [(xs, wi)], by omega, by go_num, HT5.out, HO5.out, by simp; omega, HL5, fun h hh => (by
            rcases List.mem_append.1 hh with hh | hh
            · exact HH.out h hh
            · simp at hh
              subst hh
              exact ⟨hwN, hxr⟩), by omega, mm5⟩
          case measure => simp [intOf]; omega
        | false =>
          simp only [hfr, Bool.false_eq_true, if_false] at htk
          have HK := Lib.hid htk
          clear htk hfr hol
          go_wp2_with (go_at_call 17; refine HK.out.mono ?_; clear HK; rintro e w3 ⟨rfl, m3⟩)
          have hs3 := m3.size
          go_roundw
          case rel => exact ⟨i + 1, H, by omega, by go_num, HT.out.mod0 m3, HO.out.mod0 m3, by omega, Lib.hid (by have := HLn.out; rw [HS.out, List.length_append]; omega), HH.out, by omega, hm.then0 m3⟩
          case measure => simp [intOf]; omega
      · obtain rfl : i = l.length := by omega
        have hLl : (locksH H).length ≤ 400 := by
          have := HLn.out
          have := allOf_len l l.length
          omega
        have hl400 : l.length ≤ 400 := by have := allOf_len l l.length; omega
        obtain ⟨aH, cH, rfl, hqH, haH, _⟩ := hown.at haveT
        have HH := Lib.hid hH
        have HLn2 : Hid (∀ j, (locksH ((backOrder H (at_ % H.length)).drop j)).length ≤ (locksH H).length) := Lib.hid (fun j => by
          have h1 : (locksH (backOrder H (at_ % H.length))).length = (locksH H).length := ((backOrder_perm H _).flatMap_right _).length_eq
          have h2 : (locksH (backOrder H (at_ % H.length))).length = (locksH ((backOrder H (at_ % H.length)).take j)).length + (locksH ((backOrder H (at_ % H.length)).drop j)).length := by
            rw [← List.length_append, ← locksH_append, List.take_append_drop]
          omega)
        have HT0 : Hid (TabAt wr t hb wb N (locksH ((backOrder H (at_ % H.length)).drop 0))) := Lib.hid (hT.perm (fun x => by rw [List.drop_zero]; exact locksH_perm (backOrder_perm H _) x))
        obtain ⟨wo, rfl⟩ : ∃ wo : World, wo = wr := ⟨_, rfl⟩
        clear hown hH hT HLn
        go_wp2_with fail
        go_loopw [13] (fun s13 wr => ∃ j : Nat, j ≤ H.length ∧ s13 = .int .i64 j ∧ TabAt wr t hb wb N (locksH ((backOrder H (at_ % H.length)).drop j)) ∧ SlAt hv 3 wr aH H ∧ Mod (fun _ => False) w wr) (fun s13 _ => H.length - (intOf s13).toNat)
        case atStart => exact ⟨0, by omega, rfl, HT0.out, hqH, hm⟩
        case round =>
          clear hqH hm HT0
          obtain ⟨j, hj, rfl, hT, hqH, hm⟩ := hrel
          by_cases hlt2 : j < H.length
          · obtain ⟨idx, hidx, hidx2⟩ : ∃ idx, idx = (H.length - 1 - j + at_) % H.length ∧ idx < H.length := ⟨_, rfl, Nat.mod_lt _ (by omega)⟩
            obtain ⟨h, hh⟩ : ∃ h, H[idx]? = some h := ⟨_, List.getElem?_eq_getElem hidx2⟩
            have hbo := backOrder_get H at_ j hlt2
            rw [← hidx, hh] at hbo
            obtain ⟨q1, hq1⟩ : ∃ q1 : Nat, q1 + 1 = H.length := ⟨H.length - 1, by omega⟩
            obtain ⟨q2, hq2⟩ : ∃ q2 : Nat, q2 + j = q1 := ⟨q1 - j, by omega⟩
            obtain ⟨q3, hq3⟩ : ∃ q3 : Nat, q3 = q2 + at_ := ⟨_, rfl⟩
            have e5 : (q3 : Int).tmod (H.length : Int) = (idx : Int) := by
              rw [hidx, hq3, show H.length - 1 - j = q2 by omega, Int.tmod_eq_emod_of_nonneg (by omega)]
              simp
            have e1 : IntKind.i64.wrap ((H.length : Int) - 1) = (q1 : Int) := (IntWalk.i64_in _ (by omega)).trans (by omega)
            have e2 : IntKind.i64.wrap ((q1 : Int) - (j : Int)) = (q2 : Int) := (IntWalk.i64_in _ (by omega)).trans (by omega)
            have e3 : IntKind.i64.wrap (at_ : Int) = (at_ : Int) := IntWalk.i64_in _ (by omega)
            have e4 : IntKind.i64.wrap ((q2 : Int) + (at_ : Int)) = (q3 : Int) := (IntWalk.i64_in _ (by omega)).trans (by omega)
            have hne : ¬ H = [] := fun e => by subst e; simp at hlt2
            obtain ⟨g, o, C, U, fr, rfl, kl, he, hle⟩ := hqH.block hh
            have hC0 : C[o + idx * 3]? = some (.bool false) := cellC he (j := 0) rfl
            have hC1 : C[o + idx * 3 + 1]? = some h.1.v := cellC he (j := 1) rfl
            have hC2 : C[o + idx * 3 + 2]? = some (.int .i64 (h.2.val : Int)) := cellC he (j := 2) rfl
            unfold Sl.v at hC1
            obtain ⟨⟨qa, ql, qc⟩, qi⟩ := h
            dsimp only at hC1 hC2
            simp only [hv, Sl.v] at he
            clear hh hidx hq1 hq2 hq3
            have hle2 : o + idx * 3 + 3 ≤ C.size := hle
            have HB := Lib.hid hbo
            have HT := Lib.hid hT
            clear hbo hT
            go_upto_region 17 with fail
            have Lkl := lt_size kl
            refine wp_pass0 (C := fun _ _ _ => False) (κ := fun i => [0, 0, 0, 0, 0, 0, 0, 0, 0, 0, 0, 0, 0, 1, 3, 4].getD i 0) [0, 1, 2, 3, 4, 5, 6, 7, 8, 9, 10, 11, 12, 13, 14, 15] (by kernel_rfl) (by kernel_rfl) (fun _ _ d _ _ h => by cases d <;> exact h) ?_
            (refine TD.val0 (v := ?v12) (by simp only [List.getElem?_toArray, List.getElem?_cons_succ, List.getElem?_cons_zero]; rfl) rfl ?hw12 (fun w1 => ?hy12) ?hn12; (case hw12 => rfl); (case hy12 => (go_simp; (try with_reducible rfl))); (try simp only [Act.put, List.setIfInBounds_toArray, List.set_cons_zero, List.set_cons_succ]))
            (refine TD.val0 (v := ?v13) (by simp only [List.getElem?_toArray, List.getElem?_cons_succ, List.getElem?_cons_zero]; rfl) rfl ?hw13 (fun w1 => ?hy13) ?hn13; (case hw13 => rfl); (case hy13 => (go_simp; (try with_reducible rfl))); (try simp only [Act.put, List.setIfInBounds_toArray, List.set_cons_zero, List.set_cons_succ]))
            (refine TD.val0 (v := ?v14) (by simp only [List.getElem?_toArray, List.getElem?_cons_succ, List.getElem?_cons_zero]; rfl) rfl ?hw14 (fun w1 => ?hy14) ?hn14; (case hw14 => rfl); (case hy14 => (go_simp; (try with_reducible rfl))); (try simp only [Act.put, List.setIfInBounds_toArray, List.set_cons_zero, List.set_cons_succ]))
            (refine TD.val0 (v := ?v15) (by simp only [List.getElem?_toArray, List.getElem?_cons_succ, List.getElem?_cons_zero]; rfl) rfl ?hw15 (fun w1 => ?hy15) ?hn15; (case hw15 => rfl); (case hy15 => (go_simp; (try with_reducible rfl))); (try simp only [Act.put, List.setIfInBounds_toArray, List.set_cons_zero, List.set_cons_succ]))
            (refine TD.val0 (v := ?v16) (by simp only [List.getElem?_toArray, List.getElem?_cons_succ, List.getElem?_cons_zero]; rfl) rfl ?hw16 (fun w1 => ?hy16) ?hn16; (case hw16 => rfl); (case hy16 => (go_simp; (try with_reducible rfl))); (try simp only [Act.put, List.setIfInBounds_toArray, List.set_cons_zero, List.set_cons_succ]))
            (refine TD.val0 (v := ?v17) (by simp only [List.getElem?_toArray, List.getElem?_cons_succ, List.getElem?_cons_zero]; rfl) rfl ?hw17 (fun w1 => ?hy17) ?hn17; (case hw17 => rfl); (case hy17 => (go_simp; (try with_reducible rfl))); (try simp only [Act.put, List.setIfInBounds_toArray, List.set_cons_zero, List.set_cons_succ]))
            (refine TD.val0 (v := ?v18) (by simp only [List.getElem?_toArray, List.getElem?_cons_succ, List.getElem?_cons_zero]; rfl) rfl ?hw18 (fun w1 => ?hy18) ?hn18; (case hw18 => rfl); (case hy18 => (go_simp; (try with_reducible rfl))); (try simp only [Act.put, List.setIfInBounds_toArray, List.set_cons_zero, List.set_cons_succ]))
            (refine TD.val0 (v := ?v19) (by simp only [List.getElem?_toArray, List.getElem?_cons_succ, List.getElem?_cons_zero]; rfl) rfl ?hw19 (fun w1 => ?hy19) ?hn19; (case hw19 => rfl); (case hy19 => (go_simp; (try with_reducible rfl))); (try simp only [Act.put, List.setIfInBounds_toArray, List.set_cons_zero, List.set_cons_succ]))
            (refine TD.val0 (v := ?v20) (by simp only [List.getElem?_toArray, List.getElem?_cons_succ, List.getElem?_cons_zero]; rfl) rfl ?hw20 (fun w1 => ?hy20) ?hn20; (case hw20 => rfl); (case hy20 => (go_simp; (try with_reducible rfl))); (try simp only [Act.put, List.setIfInBounds_toArray, List.set_cons_zero, List.set_cons_succ]))
            (refine TD.val0 (v := ?v21) (by simp only [List.getElem?_toArray, List.getElem?_cons_succ, List.getElem?_cons_zero]; rfl) rfl ?hw21 (fun w1 => ?hy21) ?hn21; (case hw21 => rfl); (case hy21 => (go_simp; (try with_reducible rfl))); (try simp only [Act.put, List.setIfInBounds_toArray, List.set_cons_zero, List.set_cons_succ]))
            (refine TD.val0 (v := ?v22) (by simp only [List.getElem?_toArray, List.getElem?_cons_succ, List.getElem?_cons_zero]; rfl) rfl ?hw22 (fun w1 => ?hy22) ?hn22; (case hw22 => rfl); (case hy22 => (go_simp; (try with_reducible rfl))); (try simp only [Act.put, List.setIfInBounds_toArray, List.set_cons_zero, List.set_cons_succ]))
            (refine TD.val0 (v := ?v23) (by simp only [List.getElem?_toArray, List.getElem?_cons_succ, List.getElem?_cons_zero]; rfl) rfl ?hw23 (fun w1 => ?hy23) ?hn23; (case hw23 => rfl); (case hy23 => (go_simp; (try with_reducible rfl))); (try simp only [Act.put, List.setIfInBounds_toArray, List.set_cons_zero, List.set_cons_succ]))
            (refine TD.val0 (v := ?v24) (by simp only [List.getElem?_toArray, List.getElem?_cons_succ, List.getElem?_cons_zero]; rfl) rfl ?hw24 (fun w1 => ?hy24) ?hn24; (case hw24 => rfl); (case hy24 => (go_simp; (try with_reducible rfl))); (try simp only [Act.put, List.setIfInBounds_toArray, List.set_cons_zero, List.set_cons_succ]))
            (refine TD.load (v := ?v25) (p := ?p25) (Mod.refl _ _) (by simp only [List.getElem?_toArray, List.getElem?_cons_succ, List.getElem?_cons_zero]; rfl) rfl ?hw25 rfl ?hx25 (fun wq hSq => ?hy25) ?hn25; (case hw25 => rfl); (case hx25 => (simp only [Act.eval, Array.getD_eq_getD_getElem?, List.getElem?_toArray, List.getElem?_cons_succ, List.getElem?_cons_zero, Option.getD_some]; (try rfl))); (case hy25 => (have klq := hSq.at kl (fun h => h); go_simp; (try with_reducible rfl))); (try simp only [Act.put, List.setIfInBounds_toArray, List.set_cons_zero, List.set_cons_succ]))
            (refine TD.allocB (by simp only [List.getElem?_toArray, List.getElem?_cons_succ, List.getElem?_cons_zero]; rfl) rfl ?hw26 rfl rfl alAct (fun p14 hp14 => ?hn26); (case hw26 => rfl); (try simp only [Act.put, List.setIfInBounds_toArray, List.set_cons_zero, List.set_cons_succ]))
            (refine TD.storeB (d := ?d27) (T := ?T27) (y := ?y27) (p := ?p27) (b := ?b27) (v := ?v27) (by simp only [List.getElem?_toArray, List.getElem?_cons_succ, List.getElem?_cons_zero]; rfl) rfl ?hw27 ?hd27 ?hop27 ?hev27 ?hx27 ?hb27 ?htag27 (fun w1 hb1 => ?hy27) ?hn27; (case hw27 => rfl); (case hd27 => rfl); (case hop27 => rfl); (case hev27 => (simp only [Act.eval, Array.getD_eq_getD_getElem?, List.getElem?_toArray, List.getElem?_cons_succ, List.getElem?_cons_zero, Option.getD_some]; (try rfl))); (case hx27 => (simp only [Act.eval, Array.getD_eq_getD_getElem?, List.getElem?_toArray, List.getElem?_cons_succ, List.getElem?_cons_zero, Option.getD_some]; (try rfl))); (case hb27 => first | exact Bx.set_same _ _ _ | (simp only [Bx.set_same]; rfl)); (case hy27 => (go_simp; (try with_reducible rfl))); (try simp only [Act.put, List.setIfInBounds_toArray, List.set_cons_zero, List.set_cons_succ]))
            refine TD.nil (fun w3 hr => ?_)
            have kl := hr.mod.at kl (fun h => h)
            have kp14 := hr.box p14 _ (by first | exact Bx.set_same _ _ _ | (simp only [Bx.set_same]; rfl)); dsimp only [Value.cells] at kp14; obtain ⟨gp14, kp14⟩ := kp14
            have mm := hm.then0 hr.mod
            have hs3 := hr.mod.size
            have hqH3 := hqH.mod0 hr.mod
            have hdr := drop_cons HB.out
            have hLH : (locksH ((backOrder H (at_ % H.length)).drop j)).length ≤ 400 := Nat.le_trans (HLn2.out j) hLl
            have hT3 := HT.out.mod0 hr.mod
            rw [hdr] at hT3 hLH
            obtain ⟨hqN, hqr⟩ := HH.out ⟨⟨qa, ql, qc⟩, qi⟩ ((backOrder_perm H _).mem_iff.1 (List.mem_of_getElem? HB.out))
            have hql : ql.length ≤ 400 := by
              rw [locksH_cons, List.length_append, locksOf_len] at hLH
              dsimp only at hLH
              omega
            have hrl := release_m t hb wb N _ qa ql qc qi w3 hT3 (hqr.mod0 mm) (by omega) (by omega) hqN
            simp only [relB_head (⟨qa, ql, qc⟩, qi), if_true] at hrl
            have HK := Lib.hid hrl
            have HT3 := Lib.hid hT3
            have HD := Lib.hid hdr
            clear hrl hT3 hdr hqH hqr e1 e2 e3 e4 e5
            go_wp2_with fail
            go_at_call 15
            refine HK.out.mono ?_
            clear HK
            rintro e w4 ⟨rfl, hT4, m4⟩
            have hT5 := hT4.perm (subL_head (⟨qa, ql, qc⟩, qi) ((backOrder H (at_ % H.length)).drop (j + 1)))
            have HT5 := Lib.hid hT5
            clear hT4 hT5
            go_wp2_with fail
            go_roundw
            case rel => exact ⟨j + 1, by omega, by go_num, HT5.out, hqH3.modT HT3.out m4, mm.then m4 (fun i hi e => by rcases e with rfl | rfl <;> omega)⟩
            case measure => simp [intOf]; omega
          · obtain rfl : j = H.length := by omega
            have hT0 : TabAt wr t hb wb N [] := by
              have : (backOrder H (at_ % H.length)).drop H.length = [] := List.drop_of_length_le (by rw [backOrder_len]; omega)
              rw [this] at hT
              exact hT
            have HT0 := Lib.hid hT0
            clear hT hT0 hqH HH HLn2 hLl
            obtain ⟨wo2, rfl⟩ : ∃ wo : World, wo = wr := ⟨_, rfl⟩
            go_wp2_with fail
            have hmask : (18446744073709551615 : Int) / 2 ^ (64 - N) = ((maskN N : Nat) : Int) := by
              unfold maskN
              simp
            rw [hmask]
            clear hmask
            go_loopw [16] (fun s16 wr => ∃ j : Nat, j ≤ l.length ∧ s16 = .int .i64 j ∧ TabAt wr t hb wb N [] ∧ Mod (fun _ => False) w wr) (fun s16 _ => l.length - (intOf s16).toNat)
            case atStart => exact ⟨0, by omega, rfl, HT0.out, hm⟩
            case round =>
              clear hm HT0
              obtain ⟨i, hi, rfl, hT, hm⟩ := hrel
              by_cases hlt : i < l.length
              · obtain ⟨x, hx⟩ : ∃ x, l[i]? = some x := ⟨_, List.getElem?_eq_getElem hlt⟩
                obtain ⟨g, o, C, U, fr, rfl, kl, he, hle⟩ := (hl.mod0 hm).block hx
                have hC1 : C[o + i * 3 + 1]? = some x.s.v := cellC he (j := 1) rfl
                have HX := HOK.out x (List.mem_of_getElem? hx)
                have hxr : RolesAt w x.s.a x.s.l := HX.1.1
                have hxl : x.s.l.length ≤ 400 := Nat.le_trans (len_of_mem (List.mem_of_getElem? hx)) hsz
                clear he hx HX
                obtain ⟨xb, ⟨xa, xl, xc⟩, xn⟩ := x
                dsimp only at hC1 hxr hxl
                unfold Sl.v at hC1
                have hth := threads_m t hb wb N [] xa xl xc wr hT hN1 hN2 (hxr.mod0 hm) (by omega)
                rw [maskN_all N hN2] at hth
                have HK := Lib.hid hth
                have HT := Lib.hid hT
                clear hth hT
                go_wp2_with fail
                go_at_call 13
                refine HK.out.mono ?_
                clear HK
                rintro e w4 ⟨rfl, m4⟩
                have kl4 := m4.at0 kl
                have mm4 := hm.then0 m4
                have hrl := release_m t hb wb N [] xa xl xc 0 w4 (HT.out.mod0 m4) (hxr.mod0 mm4) (by simp) (by omega) (by show 0 < N; omega)
                rw [relB_nil] at hrl
                have HR := Lib.hid hrl
                clear hrl
                cases xl with
                | nil =>
                  go_wp2_with fail
                  go_roundw
                  case rel => exact ⟨i + 1, by omega, by go_num, HT.out.mod0 m4, mm4⟩
                  case measure => simp [intOf]; omega
                | cons r xl =>
                  have hp : (0 : Int) < ((r :: xl).length : Int) := by simp only [List.length_cons]; omega
                  go_wp2_with fail
                  go_at_call 15
                  refine HR.out.mono ?_
                  clear HR
                  rintro e w5 h5
                  simp only [List.isEmpty_cons, Bool.false_eq_true, if_false] at h5
                  obtain ⟨rfl, m5⟩ := h5
                  go_wp2_with fail
                  go_roundw
                  case rel => exact ⟨i + 1, by omega, by go_num, (HT.out.mod0 m4).mod0 m5, mm4.then0 m5⟩
                  case measure => simp [intOf]; omega
              · have hfr := free_T t hb wb N [] wr hT
                have HK := Lib.hid hfr
                clear hfr hT
                go_wp2_with fail
                go_at_call 19
                refine HK.out.mono ?_
                clear HK
                rintro e w2 ⟨rfl, rfl⟩
                go_wp2_with (go_at_call 10; refine (lives_c _).mono ?_; rintro e w' ⟨rfl, hm2⟩)
                go_ret
                exact ⟨rfl, hm.trans hm2⟩
end Go.Proofs.Ytleenmldlbccmaa
