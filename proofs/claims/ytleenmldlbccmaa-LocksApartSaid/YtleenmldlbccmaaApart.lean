/- LocksApart: what two workers have taken, and not given back, never conflicts; who may take something is who has nothing against it with any other one. -/
import Derived.Test.YtleenmldlbccmaaBack
import Derived.Test.YtleenmldlbccmaaOff
import Derived.Deep.DeepCutAuto
import Derived.Deep.CutRange
namespace Go.Proofs.Ytleenmldlbccmaa
open Go.RowKit
open Go.ChangeMaps (setBlock)
set_option linter.unusedSimpArgs false
set_option linter.unusedVariables false
attribute [local go_sem ↓] wlAct ldAct stAct wlKey wlRole wlSpot wlCounts wlBits ldKey ldRole ldSpot ldCounts ldBits stKey stRole stSpot stCounts stBits eqCounts eqBits eqKey1
attribute [local go_sem] eqBlk zKey_size zRole_size eqHeld cell_blk frozen_blk kc_ext rc_size rc_key rc_all rc_s rc_w rc_s' rc_w' rc_one sc_size sc_key sc_all sc_n sc_n' sc_one one_int one_bool one_ptr one_slice one_map zSpot_size kc_one kc_one0 Value.cells
def mayOne (q : List Role) (v : Nat) (h : Hv) : Bool := (h.2.val == v) || !confl h.1.l q
def mayH (H : List Hv) (q : List Role) (v : Nat) : Bool := H.all (mayOne q v)
theorem mem_locksH {H : List Hv} {x : Lk} : x ∈ locksH H ↔ ∃ h ∈ H, ∃ r ∈ h.1.l, x = (r.k, r.w, h.2) := by
  unfold locksH locksOf
  simp only [List.mem_flatMap, List.mem_map]
  constructor
  · rintro ⟨h, hh, r, hr, rfl⟩
    exact ⟨h, hh, r, hr, rfl⟩
  · rintro ⟨h, hh, r, hr, rfl⟩
    exact ⟨h, hh, r, hr, rfl⟩
theorem freeB_H (H : List Hv) (q : List Role) (v : Nat) : freeB (locksH H) q v = mayH H q v := by
  rw [Bool.eq_iff_iff]
  unfold freeB mayH mayOne blocksB confl conflR
  simp only [List.all_eq_true, Bool.or_eq_true, Bool.not_eq_true', beq_iff_eq, List.any_eq_false, Bool.and_eq_true, decide_eq_true_eq, Bool.not_eq_true, List.any_eq_true, Bool.and_eq_false_imp]
  constructor
  · intro h x hx
    by_cases hv : x.2.val = v
    · exact .inl hv
    · refine .inr fun r hr => ?_
      rintro ⟨y, hy, e, hw⟩
      have := h y hy (r.k, r.w, x.2) (mem_locksH.2 ⟨x, hx, r, hr, rfl⟩) ⟨e, by simpa using hv⟩
      rcases hw with hw | hw <;> simp_all
  · intro h y hy x hx
    obtain ⟨g, hg, r, hr, rfl⟩ := mem_locksH.1 hx
    rintro ⟨e, hv⟩
    rcases h g hg with h1 | h1
    · simp [h1] at hv
    · have := h1 r hr
      cases hw : (r.w || y.w)
      · rfl
      · exact absurd ⟨y, hy, e, by simpa using hw⟩ this
theorem mask_H (H : List Hv) (q : List Role) (n : Nat) : maskOf (freeB (locksH H) q) n = maskOf (mayH H q) n := maskOf_congr n (fun j _ => freeB_H H q j)
theorem confl_symm (a b : List Role) : confl a b = confl b a := by
  rw [Bool.eq_iff_iff]
  unfold confl conflR
  simp only [List.any_eq_true, Bool.and_eq_true, decide_eq_true_eq, Bool.or_eq_true]
  constructor <;>
  · rintro ⟨x, hx, y, hy, e, hw⟩
    exact ⟨y, hy, x, hx, e.symm, hw.symm⟩
def PW (H : List Hv) : Prop := H.Pairwise fun x y => x.2 ≠ y.2 → confl x.1.l y.1.l = false
theorem PW.snoc {H : List Hv} (h : PW H) {s : Sl Role} {i : Fin 64} (hf : freeB (locksH H) s.l i.val = true) : PW (H ++ [(s, i)]) := by
  unfold PW
  rw [List.pairwise_append]
  refine ⟨h, List.pairwise_singleton _ _, fun x hx y hy hne => ?_⟩
  simp only [List.mem_singleton] at hy
  subst hy
  rw [freeB_H] at hf
  unfold mayH at hf
  have := List.all_eq_true.1 hf x hx
  unfold mayOne at this
  simp only [Bool.or_eq_true, beq_iff_eq, Bool.not_eq_true'] at this
  rcases this with h1 | h1
  · exact absurd (Fin.ext h1) hne
  · exact h1
theorem PW.get {H : List Hv} (h : PW H) {j k : Nat} {x y : Hv} (hj : H[j]? = some x) (hk : H[k]? = some y) (hlt : j < k) (hne : y.2 ≠ x.2) : confl y.1.l x.1.l = false := by
  obtain ⟨hj1, rfl⟩ := List.getElem?_eq_some_iff.1 hj
  obtain ⟨hk1, rfl⟩ := List.getElem?_eq_some_iff.1 hk
  rw [confl_symm]
  exact List.pairwise_iff_getElem.1 h j k hj1 hk1 hlt (Ne.symm hne)
theorem all_take {α : Type} (f : α → Bool) (l : List α) {i : Nat} {x : α} (h : l[i]? = some x) : (l.take (i + 1)).all f = ((l.take i).all f && f x) := by
  rw [List.take_add_one, h]
  simp
theorem or_mask (p : Nat → Bool) (v : Nat) (hv : v < 64) (hp : p v = true) : bits .or .u64 ((maskOf p v : Nat) : Int) ((pw v : Nat) : Int) = ((maskOf p (v + 1) : Nat) : Int) := by
  have h1 := maskOf_lt p v
  have h2 : 2 ^ v < 2 ^ 64 := Nat.pow_lt_pow_right (by omega) hv
  have h2' : 2 ^ v < 18446744073709551616 := by simpa using h2
  have h3 := u64_or_nat (maskOf p v) (pw v) (by omega) h2'
  rw [h3]
  congr 1
  unfold pw
  rw [maskOf, if_pos hp, Nat.or_comm, Nat.add_comm]
  have := Nat.two_pow_add_eq_or_of_lt h1 1
  rw [Nat.mul_one] at this
  exact this.symm
/-- Take, as one. -/
theorem take_one (t hb wb n : Nat) (L : List Lk) (a : Option Addr) (l : List Role) (c : Nat) (i : Fin 64) (w : World) (h : TabAt w t hb wb n L) (hn : 1 ≤ n) (hn2 : n ≤ 64) (hl : RolesAt w a l) (hlen : L.length + l.length ≤ 1000000) (hi : i.val < n) :
    Calls Try.prog 17 #[.pointer (some ⟨t, 0, none⟩), .slice a l.length c, .int .i64 (i.val : Int)] w fun e w' => ∃ ev : Int, e = .returned (.int .i64 ev) ∧ (ev == 0) = freeB L l i.val ∧ TabAt w' t hb wb n (if freeB L l i.val then addL L l i else L) ∧ Mod (fun i => i = hb ∨ i = wb) w w' := by
  refine (take_m t hb wb n L a l c i w h hn hn2 hl hlen hi).mono ?_
  intro e w' hp
  unfold TakePost at hp
  cases hf : freeB L l i.val with
  | true =>
    simp only [hf, if_true] at hp ⊢
    obtain ⟨rfl, hT, hm⟩ := hp
    exact ⟨0, rfl, rfl, hT, hm⟩
  | false =>
    simp only [hf, Bool.false_eq_true, if_false] at hp ⊢
    obtain ⟨rfl, hm⟩ := hp
    exact ⟨23, rfl, rfl, h.mod0 hm, hm.mono (fun _ _ h => h.elim)⟩
theorem sq_slice1 {P : Program} {ops : Array Oper} {Q : Exit → Act → World → Prop} {i : Nat} {r : List Nat} {a : Act} {o : Oper} {w : World} {T : TypeId} {s x : Operand} {v u v' : Value} (ho : ops[i]? = some o) (hw : Region.wanted o (yielded ops a.tmps) = true)
    (hop : o.op = .slice T s (some x) none none) (hs : a.eval s = v) (hx : a.eval x = u) (hr : (Instr.sliceAt T v (some u) none none).run P w = .ok v' w) (h : wpOps P ops Q r (a.put o.dst v') w) : wpOps P ops Q (i :: r) a w :=
  sq_val ho hw (by subst hs; subst hx; simp [execOp, hop, hr]) h
set_option maxRecDepth 20000 in
set_option maxHeartbeats 25600000 in
theorem apart_c (m : Int) (a : Option Addr) (l : List Act') (c : Nat) (w : World) (hl : SlAt acv 3 w a l) (hlm : l.length ≤ 140737488355328) (hok : ∀ x ∈ l, ActOk' w x) (hm0 : 0 ≤ m) (hm1 : m ≤ 255) :
    Calls Try.prog 5 #[.int .u8 m, .slice a l.length c] w fun e w' => e = .returned (.bool true) ∧ Mod (fun _ => False) w w' := by
  have hgr := great_c a l c w hl hlm (fun x hx => len_small (hok x hx))
  have HG := Lib.hid hgr
  have HOK := Lib.hid hok
  clear hgr hok
  obtain ⟨N, hN, hN1, hN2⟩ : ∃ N : Nat, (N : Int) = 1 + m % 64 ∧ 1 ≤ N ∧ N ≤ 64 := ⟨(1 + m % 64).toNat, by omega, by omega, by omega⟩
  go_enter Try.func5, Try.ntmps5
  go_wp2_with fail
  go_at_call 9
  refine HG.out.mono ?_
  rintro e w' ⟨b, rfl, hsz, rfl⟩
  clear HG
  rw [← hN]
  clear hN
  cases b with
  | true =>
    go_wp2_with (go_at_call 10; refine (lives_c _).mono ?_; rintro e w' ⟨rfl, hm2⟩)
    go_ret
    exact ⟨rfl, hm2⟩
  | false =>
    replace hsz := hsz rfl
    go_wp2_with fail
    go_at_call 11
    refine (new_c N w hN1 hN2).mono ?_
    rintro e w1 ⟨t, hb, wb, rfl, ht, hhb, hwb, hT, m1⟩
    obtain ⟨Lt, Lh, Lw⟩ := hT.lt
    go_wp2_with fail
    go_loopw [8, 9] (fun s8 s9 wr => ∃ (i : Nat) (H : List Hv), i ≤ l.length ∧ s9 = .int .i64 i ∧ TabAt wr t hb wb N (locksH H) ∧ SlOff hv 3 34 wr w1.heap.size s8 H ∧ Hid (PW H) ∧ H.length ≤ i ∧ Hid ((locksH H).length ≤ (allOf (l.take i)).length) ∧ (∀ h ∈ H, h.2.val < N ∧ RolesAt w h.1.a h.1.l ∧ h.1.l.length ≤ 400) ∧ w1.heap.size ≤ wr.heap.size ∧ Mod (fun _ => False) w wr) (fun _ s9 _ => l.length - (intOf s9).toNat)
    case atStart => exact ⟨0, [], by omega, rfl, hT, SlOff.nil _ _, Lib.hid List.Pairwise.nil, by simp, Lib.hid (by simp [locksH]), fun h hh => (by cases hh), Nat.le_refl _, m1⟩
    case round =>
      clear hT m1
      obtain ⟨i, H, hi, rfl, hT, hown, HPW, hHi, HLn, hH, hge, hm⟩ := hrel
      obtain ⟨wa, rfl⟩ : ∃ wa : World, wa = wr := ⟨_, rfl⟩
      by_cases hlt : i < l.length
      · obtain ⟨x, hx⟩ : ∃ x, l[i]? = some x := ⟨_, List.getElem?_eq_getElem hlt⟩
        obtain ⟨g, o, C, U, fr, rfl, kl, he, hle⟩ := (hl.mod0 hm).block hx
        have hC0 : C[o + i * 3]? = some (.bool x.back) := cellC he (j := 0) rfl
        have hC1 : C[o + i * 3 + 1]? = some x.s.v := cellC he (j := 1) rfl
        have hC2 : C[o + i * 3 + 2]? = some (.int .i64 x.n) := cellC he (j := 2) rfl
        have hlg : g < w.heap.size := by
          obtain ⟨g', o', C', U', fr', ha', kl', _, _⟩ := hl.block hx
          cases ha'
          exact lt_size kl'
        have HX := HOK.out x (List.mem_of_getElem? hx)
        have hxr : RolesAt w x.s.a x.s.l := HX.1.1
        have HS := Lib.hid (allOf_snoc l i x hx)
        have hxl : x.s.l.length ≤ 400 := Nat.le_trans (len_of_mem (List.mem_of_getElem? hx)) hsz
        have hal : (allOf (l.take i)).length ≤ 400 := by have := allOf_len l i; omega
        have hLl : (locksH H).length ≤ 400 := by have := HLn.out; omega
        have hl400 : l.length ≤ 400 := by have := allOf_len l i; omega
        clear he hx HX
        obtain ⟨xb, ⟨xa, xl, xc⟩, xn⟩ := x
        dsimp only at hC0 hC1 hC2 hxr hxl HS
        obtain ⟨z, hz, hz63⟩ := and63 xn
        obtain ⟨wi, hwi, hwN⟩ : ∃ wi : Fin 64, (z : Int) % (N : Int) = (wi.val : Int) ∧ wi.val < N := ⟨⟨z % N, by have := Nat.mod_lt z (show 0 < N by omega); omega⟩, by simp, Nat.mod_lt _ (by omega)⟩
        obtain ⟨aH, cH, rfl, hqH, haH, _⟩ := hown.at haveT
        have HO := Lib.hid hown
        have HH := Lib.hid hH
        have HT := Lib.hid hT
        have HQ := Lib.hid hqH
        clear hown hH hT hqH haH
        have hth := threads_m t hb wb N (locksH H) xa xl xc wa HT.out hN1 hN2 (hxr.mod0 hm) (by omega)
        rw [mask_H] at hth
        unfold Sl.v at hC1
        have HK := Lib.hid hth
        clear hth
        go_wp2_with fail
        go_at_call 13
        refine HK.out.mono ?_
        clear HK
        rintro e w2 ⟨rfl, m2⟩
        go_wp2_with fail
        go_loopw [12, 13] (fun s12 s13 wv => ∃ v : Nat, v ≤ N ∧ s13 = .int .i64 v ∧ s12 = .int .u64 ((maskOf (mayH H xl) v : Nat) : Int) ∧ Mod (fun _ => False) wa wv) (fun _ s13 _ => N - (intOf s13).toNat)
        case atStart => exact ⟨0, by omega, rfl, rfl, m2⟩
        case round =>
          clear m2
          obtain ⟨v, hvl, rfl, rfl, m3⟩ := hrel
          obtain ⟨wv, rfl⟩ : ∃ wv : World, wv = wr := ⟨_, rfl⟩
          by_cases hvN : v < N
          · go_wp2_with fail
            go_loopw [14, 15] (fun s14 s15 wk => ∃ k : Nat, k ≤ H.length ∧ s15 = .int .i64 k ∧ s14 = .bool ((H.take k).all (mayOne xl v)) ∧ Mod (fun _ => False) wa wk) (fun _ s15 _ => H.length - (intOf s15).toNat)
            case atStart => exact ⟨0, by omega, rfl, by simp, m3⟩
            case round =>
              clear m3
              obtain ⟨k, hk, rfl, rfl, m4⟩ := hrel
              by_cases hkH : k < H.length
              · obtain ⟨h, hh⟩ : ∃ h, H[k]? = some h := ⟨_, List.getElem?_eq_getElem hkH⟩
                obtain ⟨g2, o2, C2, U2, fr2, rfl, kl2, he2, hle2⟩ := (HQ.out.mod0 m4).block hh
                have hD1 : C2[o2 + k * 3 + 1]? = some h.1.v := cellC he2 (j := 1) rfl
                have hD2 : C2[o2 + k * 3 + 2]? = some (.int .i64 (h.2.val : Int)) := cellC he2 (j := 2) rfl
                have kl4 := m4.at0 kl
                have HA := Lib.hid (all_take (mayOne xl v) H hh)
                obtain ⟨hhN, hhr, hhl⟩ := HH.out h (List.mem_of_getElem? hh)
                obtain ⟨⟨ha, hll, hc⟩, hi64⟩ := h
                dsimp only at hD1 hD2 hhN hhr hhl
                unfold Sl.v at hD1
                have hM : Hid (mayOne xl v (⟨ha, hll, hc⟩, hi64) = ((hi64.val == v) || !confl hll xl)) := Lib.hid rfl
                have hxr4 := (hxr.mod0 hm).mod0 m4
                have hhr4 := (RolesAt.mod0 hhr hm).mod0 m4
                clear he2 hh
                generalize (H.take k).all (mayOne xl v) = b0 at *
                cases b0 with
                | false =>
                  go_upto_region 21 with fail
                  have Lkl4 := lt_size kl4
                  have Lkl2 := lt_size kl2
                  refine wp_pass (C := fun _ _ _ => False) (κ := fun i => [0, 0, 0, 0, 0, 0, 1, 0, 0, 0, 0, 0, 0, 0, 1, 0, 0, 0, 0, 1, 0, 0, 0, 0, 0].getD i 0) [0, 1, 2, 3, 4, 5, 6, 7, 8, 9, 10, 11, 12, 13, 14, 15, 16, 17, 18, 19, 20, 21, 22, 23, 24] (by kernel_rfl) (by kernel_rfl) (fun _ _ d _ _ h => by cases d <;> exact h) ?_
                  (refine TD.val0 (v := ?v1) (by simp only [List.getElem?_toArray, List.getElem?_cons_succ, List.getElem?_cons_zero]; rfl) rfl ?hw1 (fun w1 => ?hy1) ?hn1; (case hw1 => rfl); (case hy1 => (go_simp; (try with_reducible rfl))); (try simp only [Act.put, List.setIfInBounds_toArray, List.set_cons_zero, List.set_cons_succ]))
                  (refine TD.val0 (v := ?v2) (by simp only [List.getElem?_toArray, List.getElem?_cons_succ, List.getElem?_cons_zero]; rfl) rfl ?hw2 (fun w1 => ?hy2) ?hn2; (case hw2 => rfl); (case hy2 => (go_simp; (try with_reducible rfl))); (try simp only [Act.put, List.setIfInBounds_toArray, List.set_cons_zero, List.set_cons_succ]))
                  (refine TD.pass (by simp only [List.getElem?_toArray, List.getElem?_cons_succ, List.getElem?_cons_zero]; rfl) rfl ?hw3 ?hn3; (case hw3 => rfl); (try simp only [Act.put, List.setIfInBounds_toArray, List.set_cons_zero, List.set_cons_succ]))
                  (refine TD.pass (by simp only [List.getElem?_toArray, List.getElem?_cons_succ, List.getElem?_cons_zero]; rfl) rfl ?hw4 ?hn4; (case hw4 => rfl); (try simp only [Act.put, List.setIfInBounds_toArray, List.set_cons_zero, List.set_cons_succ]))
                  (refine TD.pass (by simp only [List.getElem?_toArray, List.getElem?_cons_succ, List.getElem?_cons_zero]; rfl) rfl ?hw5 ?hn5; (case hw5 => rfl); (try simp only [Act.put, List.setIfInBounds_toArray, List.set_cons_zero, List.set_cons_succ]))
                  (refine TD.pass (by simp only [List.getElem?_toArray, List.getElem?_cons_succ, List.getElem?_cons_zero]; rfl) rfl ?hw6 ?hn6; (case hw6 => rfl); (try simp only [Act.put, List.setIfInBounds_toArray, List.set_cons_zero, List.set_cons_succ]))
                  (refine TD.pass1 (by simp only [List.getElem?_toArray, List.getElem?_cons_succ, List.getElem?_cons_zero]; rfl) rfl ?hw7 ?hn7; (case hw7 => rfl); (try simp only [Act.put, List.setIfInBounds_toArray, List.set_cons_zero, List.set_cons_succ]))
                  (refine TD.pass (by simp only [List.getElem?_toArray, List.getElem?_cons_succ, List.getElem?_cons_zero]; rfl) rfl ?hw8 ?hn8; (case hw8 => rfl); (try simp only [Act.put, List.setIfInBounds_toArray, List.set_cons_zero, List.set_cons_succ]))
                  (refine TD.pass (by simp only [List.getElem?_toArray, List.getElem?_cons_succ, List.getElem?_cons_zero]; rfl) rfl ?hw9 ?hn9; (case hw9 => rfl); (try simp only [Act.put, List.setIfInBounds_toArray, List.set_cons_zero, List.set_cons_succ]))
                  (refine TD.pass (by simp only [List.getElem?_toArray, List.getElem?_cons_succ, List.getElem?_cons_zero]; rfl) rfl ?hw10 ?hn10; (case hw10 => rfl); (try simp only [Act.put, List.setIfInBounds_toArray, List.set_cons_zero, List.set_cons_succ]))
                  (refine TD.pass (by simp only [List.getElem?_toArray, List.getElem?_cons_succ, List.getElem?_cons_zero]; rfl) rfl ?hw11 ?hn11; (case hw11 => rfl); (try simp only [Act.put, List.setIfInBounds_toArray, List.set_cons_zero, List.set_cons_succ]))
                  (refine TD.pass (by simp only [List.getElem?_toArray, List.getElem?_cons_succ, List.getElem?_cons_zero]; rfl) rfl ?hw12 ?hn12; (case hw12 => rfl); (try simp only [Act.put, List.setIfInBounds_toArray, List.set_cons_zero, List.set_cons_succ]))
                  (refine TD.pass (by simp only [List.getElem?_toArray, List.getElem?_cons_succ, List.getElem?_cons_zero]; rfl) rfl ?hw13 ?hn13; (case hw13 => rfl); (try simp only [Act.put, List.setIfInBounds_toArray, List.set_cons_zero, List.set_cons_succ]))
                  (refine TD.pass (by simp only [List.getElem?_toArray, List.getElem?_cons_succ, List.getElem?_cons_zero]; rfl) rfl ?hw14 ?hn14; (case hw14 => rfl); (try simp only [Act.put, List.setIfInBounds_toArray, List.set_cons_zero, List.set_cons_succ]))
                  (refine TD.pass1 (by simp only [List.getElem?_toArray, List.getElem?_cons_succ, List.getElem?_cons_zero]; rfl) rfl ?hw15 ?hn15; (case hw15 => rfl); (try simp only [Act.put, List.setIfInBounds_toArray, List.set_cons_zero, List.set_cons_succ]))
                  (refine TD.pass (by simp only [List.getElem?_toArray, List.getElem?_cons_succ, List.getElem?_cons_zero]; rfl) rfl ?hw16 ?hn16; (case hw16 => rfl); (try simp only [Act.put, List.setIfInBounds_toArray, List.set_cons_zero, List.set_cons_succ]))
                  (refine TD.pass (by simp only [List.getElem?_toArray, List.getElem?_cons_succ, List.getElem?_cons_zero]; rfl) rfl ?hw17 ?hn17; (case hw17 => rfl); (try simp only [Act.put, List.setIfInBounds_toArray, List.set_cons_zero, List.set_cons_succ]))
                  (refine TD.pass (by simp only [List.getElem?_toArray, List.getElem?_cons_succ, List.getElem?_cons_zero]; rfl) rfl ?hw18 ?hn18; (case hw18 => rfl); (try simp only [Act.put, List.setIfInBounds_toArray, List.set_cons_zero, List.set_cons_succ]))
                  (refine TD.pass (by simp only [List.getElem?_toArray, List.getElem?_cons_succ, List.getElem?_cons_zero]; rfl) rfl ?hw19 ?hn19; (case hw19 => rfl); (try simp only [Act.put, List.setIfInBounds_toArray, List.set_cons_zero, List.set_cons_succ]))
                  (refine TD.pass1 (by simp only [List.getElem?_toArray, List.getElem?_cons_succ, List.getElem?_cons_zero]; rfl) rfl ?hw20 ?hn20; (case hw20 => rfl); (try simp only [Act.put, List.setIfInBounds_toArray, List.set_cons_zero, List.set_cons_succ]))
                  (refine TD.pass (by simp only [List.getElem?_toArray, List.getElem?_cons_succ, List.getElem?_cons_zero]; rfl) rfl ?hw21 ?hn21; (case hw21 => rfl); (try simp only [Act.put, List.setIfInBounds_toArray, List.set_cons_zero, List.set_cons_succ]))
                  (refine TD.pass (by simp only [List.getElem?_toArray, List.getElem?_cons_succ, List.getElem?_cons_zero]; rfl) rfl ?hw22 ?hn22; (case hw22 => rfl); (try simp only [Act.put, List.setIfInBounds_toArray, List.set_cons_zero, List.set_cons_succ]))
                  (refine TD.pass (by simp only [List.getElem?_toArray, List.getElem?_cons_succ, List.getElem?_cons_zero]; rfl) rfl ?hw23 ?hn23; (case hw23 => rfl); (try simp only [Act.put, List.setIfInBounds_toArray, List.set_cons_zero, List.set_cons_succ]))
                  (refine TD.val0 (v := ?v24) (by simp only [List.getElem?_toArray, List.getElem?_cons_succ, List.getElem?_cons_zero]; rfl) rfl ?hw24 (fun w1 => ?hy24) ?hn24; (case hw24 => rfl); (case hy24 => (go_simp; (try with_reducible rfl))); (try simp only [Act.put, List.setIfInBounds_toArray, List.set_cons_zero, List.set_cons_succ]))
                  (refine TD.val0 (v := ?v25) (by simp only [List.getElem?_toArray, List.getElem?_cons_succ, List.getElem?_cons_zero]; rfl) rfl ?hw25 (fun w1 => ?hy25) ?hn25; (case hw25 => rfl); (case hy25 => (go_simp; (try with_reducible rfl))); (try simp only [Act.put, List.setIfInBounds_toArray, List.set_cons_zero, List.set_cons_succ]))
                  refine TD.nil (fun w5 hr => ?_)
                  have kl4 := hr.mod.at kl4 (fun h => h)
                  have kl2 := hr.mod.at kl2 (fun h => h)
                  have m5 := m4.then0 hr.mod
                  go_wp2_with fail
                  go_roundw
                  case rel => exact ⟨k + 1, by omega, by go_num, by rw [HA.out]; rfl, m5⟩
                  case measure => simp [intOf]; omega
                | true =>
                  by_cases hvw : hi64.val = v
                  · have hvb : (((hi64.val : Nat) : Int) == (v : Int)) = true := by rw [hvw]; simp
                    go_upto_region 21 with fail
                    have Lkl4 := lt_size kl4
                    have Lkl2 := lt_size kl2
                    refine wp_pass (C := fun _ _ _ => False) (κ := fun i => [0, 0, 0, 0, 0, 0, 1, 0, 0, 0, 0, 0, 0, 0, 1, 0, 0, 0, 0, 1, 0, 0, 0, 0, 0].getD i 0) [0, 1, 2, 3, 4, 5, 6, 7, 8, 9, 10, 11, 12, 13, 14, 15, 16, 17, 18, 19, 20, 21, 22, 23, 24] (by kernel_rfl) (by kernel_rfl) (fun _ _ d _ _ h => by cases d <;> exact h) ?_
                    (refine TD.val0 (v := ?v26) (by simp only [List.getElem?_toArray, List.getElem?_cons_succ, List.getElem?_cons_zero]; rfl) rfl ?hw26 (fun w1 => ?hy26) ?hn26; (case hw26 => rfl); (case hy26 => (go_simp; (try with_reducible rfl))); (try simp only [Act.put, List.setIfInBounds_toArray, List.set_cons_zero, List.set_cons_succ]))
                    (refine TD.val0 (v := ?v27) (by simp only [List.getElem?_toArray, List.getElem?_cons_succ, List.getElem?_cons_zero]; rfl) rfl ?hw27 (fun w1 => ?hy27) ?hn27; (case hw27 => rfl); (case hy27 => (go_simp; (try with_reducible rfl))); (try simp only [Act.put, List.setIfInBounds_toArray, List.set_cons_zero, List.set_cons_succ]))
                    (refine TD.val0 (v := ?v28) (by simp only [List.getElem?_toArray, List.getElem?_cons_succ, List.getElem?_cons_zero]; rfl) rfl ?hw28 (fun w1 => ?hy28) ?hn28; (case hw28 => rfl); (case hy28 => (go_simp; (try with_reducible rfl))); (try simp only [Act.put, List.setIfInBounds_toArray, List.set_cons_zero, List.set_cons_succ]))
                    (refine TD.val0 (v := ?v29) (by simp only [List.getElem?_toArray, List.getElem?_cons_succ, List.getElem?_cons_zero]; rfl) rfl ?hw29 (fun w1 => ?hy29) ?hn29; (case hw29 => rfl); (case hy29 => (go_simp; (try with_reducible rfl))); (try simp only [Act.put, List.setIfInBounds_toArray, List.set_cons_zero, List.set_cons_succ]))
                    (refine TD.val0 (v := ?v30) (by simp only [List.getElem?_toArray, List.getElem?_cons_succ, List.getElem?_cons_zero]; rfl) rfl ?hw30 (fun w1 => ?hy30) ?hn30; (case hw30 => rfl); (case hy30 => (go_simp; (try with_reducible rfl))); (try simp only [Act.put, List.setIfInBounds_toArray, List.set_cons_zero, List.set_cons_succ]))
                    (refine TD.val0 (v := ?v31) (by simp only [List.getElem?_toArray, List.getElem?_cons_succ, List.getElem?_cons_zero]; rfl) rfl ?hw31 (fun w1 => ?hy31) ?hn31; (case hw31 => rfl); (case hy31 => (go_simp; (try with_reducible rfl))); (try simp only [Act.put, List.setIfInBounds_toArray, List.set_cons_zero, List.set_cons_succ]))
                    (refine TD.load (v := ?v32) (p := ?p32) (Mod.refl _ _) (by simp only [List.getElem?_toArray, List.getElem?_cons_succ, List.getElem?_cons_zero]; rfl) rfl ?hw32 rfl ?hx32 (fun wq hSq => ?hy32) ?hn32; (case hw32 => rfl); (case hx32 => (simp only [Act.eval, Array.getD_eq_getD_getElem?, List.getElem?_toArray, List.getElem?_cons_succ, List.getElem?_cons_zero, Option.getD_some]; (try rfl))); (case hy32 => (have kl4q := hSq.at kl4 (fun h => h); have kl2q := hSq.at kl2 (fun h => h); go_simp; (try with_reducible rfl))); (try simp only [Act.put, List.setIfInBounds_toArray, List.set_cons_zero, List.set_cons_succ]))
                    (refine TD.val0 (v := ?v33) (by simp only [List.getElem?_toArray, List.getElem?_cons_succ, List.getElem?_cons_zero]; rfl) rfl ?hw33 (fun w1 => ?hy33) ?hn33; (case hw33 => rfl); (case hy33 => (go_simp; (try with_reducible rfl))); (try simp only [Act.put, List.setIfInBounds_toArray, List.set_cons_zero, List.set_cons_succ]))
                    (refine TD.val0 (v := ?v34) (by simp only [List.getElem?_toArray, List.getElem?_cons_succ, List.getElem?_cons_zero]; rfl) rfl ?hw34 (fun w1 => ?hy34) ?hn34; (case hw34 => rfl); (case hy34 => (go_simp; (try with_reducible rfl))); (try simp only [Act.put, List.setIfInBounds_toArray, List.set_cons_zero, List.set_cons_succ]))
                    (refine TD.val0 (v := ?v35) (by simp only [List.getElem?_toArray, List.getElem?_cons_succ, List.getElem?_cons_zero]; rfl) rfl ?hw35 (fun w1 => ?hy35) ?hn35; (case hw35 => rfl); (case hy35 => (go_simp; (try with_reducible rfl))); (try simp only [Act.put, List.setIfInBounds_toArray, List.set_cons_zero, List.set_cons_succ]))
                    (refine TD.pass (by simp only [List.getElem?_toArray, List.getElem?_cons_succ, List.getElem?_cons_zero]; rfl) rfl ?hw36 ?hn36; (case hw36 => rfl); (try simp only [Act.put, List.setIfInBounds_toArray, List.set_cons_zero, List.set_cons_succ]))
                    (refine TD.pass (by simp only [List.getElem?_toArray, List.getElem?_cons_succ, List.getElem?_cons_zero]; rfl) rfl ?hw37 ?hn37; (case hw37 => rfl); (try simp only [Act.put, List.setIfInBounds_toArray, List.set_cons_zero, List.set_cons_succ]))
                    (refine TD.pass (by simp only [List.getElem?_toArray, List.getElem?_cons_succ, List.getElem?_cons_zero]; rfl) rfl ?hw38 ?hn38; (case hw38 => rfl); (try simp only [Act.put, List.setIfInBounds_toArray, List.set_cons_zero, List.set_cons_succ]))
                    (refine TD.pass (by simp only [List.getElem?_toArray, List.getElem?_cons_succ, List.getElem?_cons_zero]; rfl) rfl ?hw39 ?hn39; (case hw39 => rfl); (try simp only [Act.put, List.setIfInBounds_toArray, List.set_cons_zero, List.set_cons_succ]))
                    (refine TD.pass1 (by simp only [List.getElem?_toArray, List.getElem?_cons_succ, List.getElem?_cons_zero]; rfl) rfl ?hw40 ?hn40; (case hw40 => rfl); (try simp only [Act.put, List.setIfInBounds_toArray, List.set_cons_zero, List.set_cons_succ]))
                    (refine TD.pass (by simp only [List.getElem?_toArray, List.getElem?_cons_succ, List.getElem?_cons_zero]; rfl) rfl ?hw41 ?hn41; (case hw41 => rfl); (try simp only [Act.put, List.setIfInBounds_toArray, List.set_cons_zero, List.set_cons_succ]))
                    (refine TD.pass (by simp only [List.getElem?_toArray, List.getElem?_cons_succ, List.getElem?_cons_zero]; rfl) rfl ?hw42 ?hn42; (case hw42 => rfl); (try simp only [Act.put, List.setIfInBounds_toArray, List.set_cons_zero, List.set_cons_succ]))
                    (refine TD.pass (by simp only [List.getElem?_toArray, List.getElem?_cons_succ, List.getElem?_cons_zero]; rfl) rfl ?hw43 ?hn43; (case hw43 => rfl); (try simp only [Act.put, List.setIfInBounds_toArray, List.set_cons_zero, List.set_cons_succ]))
                    (refine TD.pass (by simp only [List.getElem?_toArray, List.getElem?_cons_succ, List.getElem?_cons_zero]; rfl) rfl ?hw44 ?hn44; (case hw44 => rfl); (try simp only [Act.put, List.setIfInBounds_toArray, List.set_cons_zero, List.set_cons_succ]))
                    (refine TD.pass1 (by simp only [List.getElem?_toArray, List.getElem?_cons_succ, List.getElem?_cons_zero]; rfl) rfl ?hw45 ?hn45; (case hw45 => rfl); (try simp only [Act.put, List.setIfInBounds_toArray, List.set_cons_zero, List.set_cons_succ]))
                    (refine TD.pass (by simp only [List.getElem?_toArray, List.getElem?_cons_succ, List.getElem?_cons_zero]; rfl) rfl ?hw46 ?hn46; (case hw46 => rfl); (try simp only [Act.put, List.setIfInBounds_toArray, List.set_cons_zero, List.set_cons_succ]))
                    (refine TD.pass (by simp only [List.getElem?_toArray, List.getElem?_cons_succ, List.getElem?_cons_zero]; rfl) rfl ?hw47 ?hn47; (case hw47 => rfl); (try simp only [Act.put, List.setIfInBounds_toArray, List.set_cons_zero, List.set_cons_succ]))
                    (refine TD.val0 (v := ?v48) (by simp only [List.getElem?_toArray, List.getElem?_cons_succ, List.getElem?_cons_zero]; rfl) rfl ?hw48 (fun w1 => ?hy48) ?hn48; (case hw48 => rfl); (case hy48 => (go_simp; (try with_reducible rfl))); (try simp only [Act.put, List.setIfInBounds_toArray, List.set_cons_zero, List.set_cons_succ]))
                    (refine TD.val0 (v := ?v49) (by simp only [List.getElem?_toArray, List.getElem?_cons_succ, List.getElem?_cons_zero]; rfl) rfl ?hw49 (fun w1 => ?hy49) ?hn49; (case hw49 => rfl); (case hy49 => (go_simp; (try with_reducible rfl))); (try simp only [Act.put, List.setIfInBounds_toArray, List.set_cons_zero, List.set_cons_succ]))
                    (refine TD.val0 (v := ?v50) (by simp only [List.getElem?_toArray, List.getElem?_cons_succ, List.getElem?_cons_zero]; rfl) rfl ?hw50 (fun w1 => ?hy50) ?hn50; (case hw50 => rfl); (case hy50 => (go_simp; (try with_reducible rfl))); (try simp only [Act.put, List.setIfInBounds_toArray, List.set_cons_zero, List.set_cons_succ]))
                    refine TD.nil (fun w5 hr => ?_)
                    have kl4 := hr.mod.at kl4 (fun h => h)
                    have kl2 := hr.mod.at kl2 (fun h => h)
                    have m5 := m4.then0 hr.mod
                    go_wp2_with fail
                    go_roundw
                    case rel => exact ⟨k + 1, by omega, by go_num, by rw [HA.out, hM.out, hvw]; simp, m5⟩
                    case measure => simp [intOf]; omega
                  · have hvb : (((hi64.val : Nat) : Int) == (v : Int)) = false := by
                      rw [beq_eq_false_iff_ne]
                      omega
                    have hvn : (hi64.val == v) = false := by simpa using hvw
                    generalize hq0 : confl hll xl = q0 at *
                    have HQ0 := Lib.hid hq0
                    have HVN := Lib.hid hvn
                    clear hq0 hvn
                    go_upto_region 21 with fail
                    have Lkl4 := lt_size kl4
                    have Lkl2 := lt_size kl2
                    refine wp_pass (C := fun _ _ v => v = .bool q0) (κ := fun i => [0, 0, 0, 0, 0, 0, 1, 0, 0, 0, 0, 0, 0, 0, 1, 0, 0, 0, 0, 1, 2, 0, 0, 0, 0].getD i 0) [0, 1, 2, 3, 4, 5, 6, 7, 8, 9, 10, 11, 12, 13, 14, 15, 16, 17, 18, 19, 20, 21, 22, 23, 24] (by kernel_rfl) (by kernel_rfl) (fun _ _ d _ _ h => by cases d <;> exact h) ?_
                    (refine TD.val0 (v := ?v51) (by simp only [List.getElem?_toArray, List.getElem?_cons_succ, List.getElem?_cons_zero]; rfl) rfl ?hw51 (fun w1 => ?hy51) ?hn51; (case hw51 => rfl); (case hy51 => (go_simp; (try with_reducible rfl))); (try simp only [Act.put, List.setIfInBounds_toArray, List.set_cons_zero, List.set_cons_succ]))
                    (refine TD.val0 (v := ?v52) (by simp only [List.getElem?_toArray, List.getElem?_cons_succ, List.getElem?_cons_zero]; rfl) rfl ?hw52 (fun w1 => ?hy52) ?hn52; (case hw52 => rfl); (case hy52 => (go_simp; (try with_reducible rfl))); (try simp only [Act.put, List.setIfInBounds_toArray, List.set_cons_zero, List.set_cons_succ]))
                    (refine TD.val0 (v := ?v53) (by simp only [List.getElem?_toArray, List.getElem?_cons_succ, List.getElem?_cons_zero]; rfl) rfl ?hw53 (fun w1 => ?hy53) ?hn53; (case hw53 => rfl); (case hy53 => (go_simp; (try with_reducible rfl))); (try simp only [Act.put, List.setIfInBounds_toArray, List.set_cons_zero, List.set_cons_succ]))
                    (refine TD.val0 (v := ?v54) (by simp only [List.getElem?_toArray, List.getElem?_cons_succ, List.getElem?_cons_zero]; rfl) rfl ?hw54 (fun w1 => ?hy54) ?hn54; (case hw54 => rfl); (case hy54 => (go_simp; (try with_reducible rfl))); (try simp only [Act.put, List.setIfInBounds_toArray, List.set_cons_zero, List.set_cons_succ]))
                    (refine TD.val0 (v := ?v55) (by simp only [List.getElem?_toArray, List.getElem?_cons_succ, List.getElem?_cons_zero]; rfl) rfl ?hw55 (fun w1 => ?hy55) ?hn55; (case hw55 => rfl); (case hy55 => (go_simp; (try with_reducible rfl))); (try simp only [Act.put, List.setIfInBounds_toArray, List.set_cons_zero, List.set_cons_succ]))
                    (refine TD.val0 (v := ?v56) (by simp only [List.getElem?_toArray, List.getElem?_cons_succ, List.getElem?_cons_zero]; rfl) rfl ?hw56 (fun w1 => ?hy56) ?hn56; (case hw56 => rfl); (case hy56 => (go_simp; (try with_reducible rfl))); (try simp only [Act.put, List.setIfInBounds_toArray, List.set_cons_zero, List.set_cons_succ]))
                    (refine TD.load (v := ?v57) (p := ?p57) (Mod.refl _ _) (by simp only [List.getElem?_toArray, List.getElem?_cons_succ, List.getElem?_cons_zero]; rfl) rfl ?hw57 rfl ?hx57 (fun wq hSq => ?hy57) ?hn57; (case hw57 => rfl); (case hx57 => (simp only [Act.eval, Array.getD_eq_getD_getElem?, List.getElem?_toArray, List.getElem?_cons_succ, List.getElem?_cons_zero, Option.getD_some]; (try rfl))); (case hy57 => (have kl4q := hSq.at kl4 (fun h => h); have kl2q := hSq.at kl2 (fun h => h); go_simp; (try with_reducible rfl))); (try simp only [Act.put, List.setIfInBounds_toArray, List.set_cons_zero, List.set_cons_succ]))
                    (refine TD.val0 (v := ?v58) (by simp only [List.getElem?_toArray, List.getElem?_cons_succ, List.getElem?_cons_zero]; rfl) rfl ?hw58 (fun w1 => ?hy58) ?hn58; (case hw58 => rfl); (case hy58 => (go_simp; (try with_reducible rfl))); (try simp only [Act.put, List.setIfInBounds_toArray, List.set_cons_zero, List.set_cons_succ]))
                    (refine TD.val0 (v := ?v59) (by simp only [List.getElem?_toArray, List.getElem?_cons_succ, List.getElem?_cons_zero]; rfl) rfl ?hw59 (fun w1 => ?hy59) ?hn59; (case hw59 => rfl); (case hy59 => (go_simp; (try with_reducible rfl))); (try simp only [Act.put, List.setIfInBounds_toArray, List.set_cons_zero, List.set_cons_succ]))
                    (refine TD.val0 (v := ?v60) (by simp only [List.getElem?_toArray, List.getElem?_cons_succ, List.getElem?_cons_zero]; rfl) rfl ?hw60 (fun w1 => ?hy60) ?hn60; (case hw60 => rfl); (case hy60 => (go_simp; (try with_reducible rfl))); (try simp only [Act.put, List.setIfInBounds_toArray, List.set_cons_zero, List.set_cons_succ]))
                    (refine TD.val0 (v := ?v61) (by simp only [List.getElem?_toArray, List.getElem?_cons_succ, List.getElem?_cons_zero]; rfl) rfl ?hw61 (fun w1 => ?hy61) ?hn61; (case hw61 => rfl); (case hy61 => (go_simp; (try with_reducible rfl))); (try simp only [Act.put, List.setIfInBounds_toArray, List.set_cons_zero, List.set_cons_succ]))
                    (refine TD.val0 (v := ?v62) (by simp only [List.getElem?_toArray, List.getElem?_cons_succ, List.getElem?_cons_zero]; rfl) rfl ?hw62 (fun w1 => ?hy62) ?hn62; (case hw62 => rfl); (case hy62 => (go_simp; (try with_reducible rfl))); (try simp only [Act.put, List.setIfInBounds_toArray, List.set_cons_zero, List.set_cons_succ]))
                    (refine TD.val0 (v := ?v63) (by simp only [List.getElem?_toArray, List.getElem?_cons_succ, List.getElem?_cons_zero]; rfl) rfl ?hw63 (fun w1 => ?hy63) ?hn63; (case hw63 => rfl); (case hy63 => (go_simp; (try with_reducible rfl))); (try simp only [Act.put, List.setIfInBounds_toArray, List.set_cons_zero, List.set_cons_succ]))
                    (refine TD.val0 (v := ?v64) (by simp only [List.getElem?_toArray, List.getElem?_cons_succ, List.getElem?_cons_zero]; rfl) rfl ?hw64 (fun w1 => ?hy64) ?hn64; (case hw64 => rfl); (case hy64 => (go_simp; (try with_reducible rfl))); (try simp only [Act.put, List.setIfInBounds_toArray, List.set_cons_zero, List.set_cons_succ]))
                    (refine TD.load (v := ?v65) (p := ?p65) (Mod.refl _ _) (by simp only [List.getElem?_toArray, List.getElem?_cons_succ, List.getElem?_cons_zero]; rfl) rfl ?hw65 rfl ?hx65 (fun wq hSq => ?hy65) ?hn65; (case hw65 => rfl); (case hx65 => (simp only [Act.eval, Array.getD_eq_getD_getElem?, List.getElem?_toArray, List.getElem?_cons_succ, List.getElem?_cons_zero, Option.getD_some]; (try rfl))); (case hy65 => (have kl4q := hSq.at kl4 (fun h => h); have kl2q := hSq.at kl2 (fun h => h); go_simp; (try with_reducible rfl))); (try simp only [Act.put, List.setIfInBounds_toArray, List.set_cons_zero, List.set_cons_succ]))
                    (refine TD.val0 (v := ?v66) (by simp only [List.getElem?_toArray, List.getElem?_cons_succ, List.getElem?_cons_zero]; rfl) rfl ?hw66 (fun w1 => ?hy66) ?hn66; (case hw66 => rfl); (case hy66 => (go_simp; (try with_reducible rfl))); (try simp only [Act.put, List.setIfInBounds_toArray, List.set_cons_zero, List.set_cons_succ]))
                    (refine TD.val0 (v := ?v67) (by simp only [List.getElem?_toArray, List.getElem?_cons_succ, List.getElem?_cons_zero]; rfl) rfl ?hw67 (fun w1 => ?hy67) ?hn67; (case hw67 => rfl); (case hy67 => (go_simp; (try with_reducible rfl))); (try simp only [Act.put, List.setIfInBounds_toArray, List.set_cons_zero, List.set_cons_succ]))
                    (refine TD.val0 (v := ?v68) (by simp only [List.getElem?_toArray, List.getElem?_cons_succ, List.getElem?_cons_zero]; rfl) rfl ?hw68 (fun w1 => ?hy68) ?hn68; (case hw68 => rfl); (case hy68 => (go_simp; (try with_reducible rfl))); (try simp only [Act.put, List.setIfInBounds_toArray, List.set_cons_zero, List.set_cons_succ]))
                    (refine TD.val0 (v := ?v69) (by simp only [List.getElem?_toArray, List.getElem?_cons_succ, List.getElem?_cons_zero]; rfl) rfl ?hw69 (fun w1 => ?hy69) ?hn69; (case hw69 => rfl); (case hy69 => (go_simp; (try with_reducible rfl))); (try simp only [Act.put, List.setIfInBounds_toArray, List.set_cons_zero, List.set_cons_succ]))
                    (refine TD.load (v := ?v70) (p := ?p70) (Mod.refl _ _) (by simp only [List.getElem?_toArray, List.getElem?_cons_succ, List.getElem?_cons_zero]; rfl) rfl ?hw70 rfl ?hx70 (fun wq hSq => ?hy70) ?hn70; (case hw70 => rfl); (case hx70 => (simp only [Act.eval, Array.getD_eq_getD_getElem?, List.getElem?_toArray, List.getElem?_cons_succ, List.getElem?_cons_zero, Option.getD_some]; (try rfl))); (case hy70 => (have kl4q := hSq.at kl4 (fun h => h); have kl2q := hSq.at kl2 (fun h => h); go_simp; (try with_reducible rfl))); (try simp only [Act.put, List.setIfInBounds_toArray, List.set_cons_zero, List.set_cons_succ]))
                    (refine TD.call (f := ?f71) (args := ?r71) (Mod.refl _ _) (by simp only [List.getElem?_toArray, List.getElem?_cons_succ, List.getElem?_cons_zero]; rfl) rfl ?hw71 (fun w1 => ?hy71) ?hsp71 ?hn71; (case hw71 => rfl); (case hy71 => (go_simp; (first | with_reducible rfl | (constructor <;> with_reducible rfl)))); (case hsp71 => (intro wq hSq; have kl4q := hSq.at kl4 (fun h => h); have kl2q := hSq.at kl2 (fun h => h); exact (conflict_c ha _ hll xl _ _ wq (hhr4.mod0 hSq) (hxr4.mod0 hSq) (by omega) (by omega)).mono (fun e w' h => ⟨_, h.1, by rw [HQ0.out], h.2⟩))); rintro _ rfl; (try simp only [Act.put, List.setIfInBounds_toArray, List.set_cons_zero, List.set_cons_succ]))
                    (refine TD.val0 (v := ?v72) (by simp only [List.getElem?_toArray, List.getElem?_cons_succ, List.getElem?_cons_zero]; rfl) rfl ?hw72 (fun w1 => ?hy72) ?hn72; (case hw72 => rfl); (case hy72 => (go_simp; (try with_reducible rfl))); (try simp only [Act.put, List.setIfInBounds_toArray, List.set_cons_zero, List.set_cons_succ]))
                    (refine TD.val0 (v := ?v73) (by simp only [List.getElem?_toArray, List.getElem?_cons_succ, List.getElem?_cons_zero]; rfl) rfl ?hw73 (fun w1 => ?hy73) ?hn73; (case hw73 => rfl); (case hy73 => (go_simp; (try with_reducible rfl))); (try simp only [Act.put, List.setIfInBounds_toArray, List.set_cons_zero, List.set_cons_succ]))
                    (refine TD.val0 (v := ?v74) (by simp only [List.getElem?_toArray, List.getElem?_cons_succ, List.getElem?_cons_zero]; rfl) rfl ?hw74 (fun w1 => ?hy74) ?hn74; (case hw74 => rfl); (case hy74 => (go_simp; (try with_reducible rfl))); (try simp only [Act.put, List.setIfInBounds_toArray, List.set_cons_zero, List.set_cons_succ]))
                    (refine TD.val0 (v := ?v75) (by simp only [List.getElem?_toArray, List.getElem?_cons_succ, List.getElem?_cons_zero]; rfl) rfl ?hw75 (fun w1 => ?hy75) ?hn75; (case hw75 => rfl); (case hy75 => (go_simp; (try with_reducible rfl))); (try simp only [Act.put, List.setIfInBounds_toArray, List.set_cons_zero, List.set_cons_succ]))
                    refine TD.nil (fun w5 hr => ?_)
                    have kl4 := hr.mod.at kl4 (fun h => h)
                    have kl2 := hr.mod.at kl2 (fun h => h)
                    have m5 := m4.then0 hr.mod
                    cases q0
                    all_goals
                      go_wp2_with fail
                      go_roundw
                      case rel => exact ⟨k + 1, by omega, by go_num, by rw [HA.out, hM.out, HVN.out]; rfl, m5⟩
                      case measure => simp [intOf]; omega
              · obtain rfl : k = H.length := by omega
                rw [List.take_length]
                have HMv : Hid (mayH H xl v = H.all (mayOne xl v)) := Lib.hid rfl
                generalize H.all (mayOne xl v) = b0 at *
                cases b0 with
                | false =>
                  have HM2 : Hid (maskOf (mayH H xl) (v + 1) = maskOf (mayH H xl) v) := Lib.hid (by rw [maskOf, HMv.out]; simp)
                  generalize hg1 : maskOf (mayH H xl) v = M1 at *
                  go_wp2_with fail
                  go_roundw
                  case rel => exact ⟨v + 1, by omega, by go_num, by rw [HM2.out], m4⟩
                  case measure => simp [intOf]; omega
                | true =>
                  have hsl := wrap_pw ⟨v, by omega⟩
                  have hor := or_mask (mayH H xl) v (by omega) HMv.out
                  dsimp only at hsl
                  generalize hg1 : maskOf (mayH H xl) v = M1 at *
                  generalize hg2 : maskOf (mayH H xl) (v + 1) = M2 at *
                  have HG2 := Lib.hid hg2
                  clear hg1 hg2
                  go_wp2_with fail
                  go_roundw
                  case rel => exact ⟨v + 1, by omega, by go_num, by rw [HG2.out], m4⟩
                  case measure => simp [intOf]; omega
          · obtain rfl : N = v := by omega
            have kl3 := m3.at0 kl
            have mm3 := hm.then0 m3
            have hT3 := HT.out.mod0 m3
            have hO3 := HO.out.mod0 m3
            have hs3 := m3.size
            obtain ⟨Lt3, Lh3, Lw3⟩ := hT3.lt
            have htk := take_one t hb wb N (locksH H) xa xl xc wi wv hT3 hN1 hN2 (hxr.mod0 mm3) (by omega) hwN
            generalize hfr : freeB (locksH H) xl wi.val = fb at *
            have HF := Lib.hid hfr
            have HK := Lib.hid htk
            have HO3 := Lib.hid hO3
            clear htk hfr hT3 hO3 hz63 hwi
            generalize hg1 : maskOf (mayH H xl) N = M1 at *
            clear hg1
            go_wp2_with fail
            go_at_call 17
            refine HK.out.mono ?_
            clear HK
            rintro e w4 ⟨ev, rfl, hev, hT4, m4⟩
            have hs4 := m4.size
            have kl4 := m4.at kl3 (by omega)
            have hO4 := HO3.out.mod m4 (fun k hk e => by have := (HO3.out.lt k hk).1; rcases e with rfl | rfl <;> omega)
            have mm4 := mm3.then m4 (fun j hj e => by rcases e with rfl | rfl <;> omega)
            have HT4 := Lib.hid hT4
            have HO4 := Lib.hid hO4
            have hs14 : w1.heap.size ≤ w4.heap.size := by omega
            clear hT4 hO4 kl kl3 m3 mm3 m4 HO3 hs3 hs4
            go_upto_if 105 with fail
            go_cut [8] from 33 to 172 (fun s8 wx => ∃ H' : List Hv, SlOff hv 3 34 wx w1.heap.size s8 H' ∧ TabAt wx t hb wb N (locksH H') ∧ Hid (PW H') ∧ H'.length ≤ i + 1 ∧ Hid ((locksH H').length ≤ (allOf (l.take (i + 1))).length) ∧ (∀ h ∈ H', h.2.val < N ∧ RolesAt w h.1.a h.1.l ∧ h.1.l.length ≤ 400) ∧ w1.heap.size ≤ wx.heap.size ∧ wx.heap[g]? = some (.cells C U fr) ∧ Mod (fun _ => False) w wx)
            case first =>
              cases fb with
              | false =>
                have hT5 := HT4.out
                simp only [Bool.false_eq_true, if_false] at hT5
                have HT5 := Lib.hid hT5
                clear hT5
                go_wp2_with fail
                go_meet
                exact ⟨H, HO4.out, HT5.out, HPW, by omega, Lib.hid (by have := HLn.out; rw [HS.out, List.length_append]; omega), HH.out, by omega, kl4, mm4⟩
              | true =>
                have hT4 := HT4.out
                simp only [if_true] at hT4
                have hbs := bsAct ⟨xa, xl, xc⟩ wi w4
                unfold Sl.v at hbs
                have mal := ((Mod.refl (fun _ => False) w4).alloc (.cells (hv (⟨xa, xl, xc⟩, wi)) 34))
                have hO5 := HO4.out.mod0 mal
                have hT5 := hT4.mod0 mal
                have mm5 := mm4.then0 mal
                have hs5 := mal.size
                obtain ⟨v6, w6, hap, hO6, m6, _⟩ := SlOff.append haveT (q := [((⟨xa, xl, xc⟩, wi) : Hv)]) (c := 1) hO5 (SlAt.one (heap_alloc_new _ _) ((⟨xa, xl, xc⟩, wi) : Hv) rfl rfl) (by simp only [List.length_cons, List.length_nil]; omega) (by omega) (by omega) 22
                have hap : (Builtin.append_ #[22, 22] 22 #[_, .slice (some ⟨w4.heap.size, 0, none⟩) 1 1]).run Try.prog _ = _ := hap
                have hol := hO5.lt
                obtain ⟨Lt4, Lh4, Lw4⟩ := hT5.lt
                have hT6 := hT5.out m6 (fun e => by have := (hol _ e).1; omega) (fun e => by have := (hol _ e).1; omega) (fun e => by have := (hol _ e).1; omega)
                have mm6 := mm5.then m6 (fun j hj e => by have := (hol _ e).1; omega)
                have kl6 := m6.at (mal.at0 kl4) (fun e => by have := (hol _ e).1; omega)
                have hs6 := m6.size
                have HT6 : Hid (TabAt w6 t hb wb N (locksH (H ++ [(⟨xa, xl, xc⟩, wi)]))) := Lib.hid (hT6.perm (fun x => by
                  rw [locksH_append, List.count_append, addL_count]
                  simp [locksH]))
                have HL6 : Hid ((locksH (H ++ [(⟨xa, xl, xc⟩, wi)])).length ≤ (allOf (l.take (i + 1))).length) := Lib.hid (by
                  rw [HS.out, locksH_append, List.length_append, List.length_append]
                  have := HLn.out
                  simp [locksH, locksOf_len] at this ⊢
                  omega)
                have HP6 : Hid (PW (H ++ [(⟨xa, xl, xc⟩, wi)])) := Lib.hid (HPW.out.snoc HF.out)
                have HO6 := Lib.hid hO6
                have hs46 : w4.heap.size ≤ w6.heap.size := by omega
                clear hO6 hT6 hol hT4 hT5 hO5 m6 mal hs5 hs6
                go_upto_region 27 with fail
                refine region_seq 11 rfl ?_
                simp only [List.range, List.range.loop]
                (refine sq_val (v := ?v76) (by simp only [List.getElem?_toArray, List.getElem?_cons_succ, List.getElem?_cons_zero]; rfl) ?hw76 ?hy76 ?hn76; (case hw76 => rfl); (case hy76 => (go_simp; (try with_reducible rfl))); (try simp only [Act.put, List.setIfInBounds_toArray, List.set_cons_zero, List.set_cons_succ]))
                (refine sq_val (v := ?v77) (by simp only [List.getElem?_toArray, List.getElem?_cons_succ, List.getElem?_cons_zero]; rfl) ?hw77 ?hy77 ?hn77; (case hw77 => rfl); (case hy77 => (go_simp; (try with_reducible rfl))); (try simp only [Act.put, List.setIfInBounds_toArray, List.set_cons_zero, List.set_cons_succ]))
                (refine sq_val (v := ?v78) (by simp only [List.getElem?_toArray, List.getElem?_cons_succ, List.getElem?_cons_zero]; rfl) ?hw78 ?hy78 ?hn78; (case hw78 => rfl); (case hy78 => (go_simp; (try with_reducible rfl))); (try simp only [Act.put, List.setIfInBounds_toArray, List.set_cons_zero, List.set_cons_succ]))
                (refine sq_val (v := ?v79) (by simp only [List.getElem?_toArray, List.getElem?_cons_succ, List.getElem?_cons_zero]; rfl) ?hw79 ?hy79 ?hn79; (case hw79 => rfl); (case hy79 => (go_simp; (try with_reducible rfl))); (try simp only [Act.put, List.setIfInBounds_toArray, List.set_cons_zero, List.set_cons_succ]))
                (refine sq_val (v := ?v80) (by simp only [List.getElem?_toArray, List.getElem?_cons_succ, List.getElem?_cons_zero]; rfl) ?hw80 ?hy80 ?hn80; (case hw80 => rfl); (case hy80 => (go_simp; (try with_reducible rfl))); (try simp only [Act.put, List.setIfInBounds_toArray, List.set_cons_zero, List.set_cons_succ]))
                (refine sq_load (v := ?v81) (p := ?p81) (by simp only [List.getElem?_toArray, List.getElem?_cons_succ, List.getElem?_cons_zero]; rfl) ?hw81 rfl ?hx81 ?hy81 ?hn81; (case hw81 => rfl); (case hx81 => (simp only [Act.eval, Array.getD_eq_getD_getElem?, List.getElem?_toArray, List.getElem?_cons_succ, List.getElem?_cons_zero, Option.getD_some]; (try rfl))); (case hy81 => (go_simp; (try with_reducible rfl))); (try simp only [Act.put, List.setIfInBounds_toArray, List.set_cons_zero, List.set_cons_succ]))
                (refine sq_val (v := ?v82) (by simp only [List.getElem?_toArray, List.getElem?_cons_succ, List.getElem?_cons_zero]; rfl) ?hw82 ?hy82 ?hn82; (case hw82 => rfl); (case hy82 => (go_simp; (try with_reducible rfl))); (try simp only [Act.put, List.setIfInBounds_toArray, List.set_cons_zero, List.set_cons_succ]))
                (refine sq_val (v := ?v83) (by simp only [List.getElem?_toArray, List.getElem?_cons_succ, List.getElem?_cons_zero]; rfl) ?hw83 ?hy83 ?hn83; (case hw83 => rfl); (case hy83 => (go_simp; (try with_reducible rfl))); (try simp only [Act.put, List.setIfInBounds_toArray, List.set_cons_zero, List.set_cons_succ]))
                (refine sq_build (by simp only [List.getElem?_toArray, List.getElem?_cons_succ, List.getElem?_cons_zero]; rfl) ?hw84 rfl ?hx84 hbs ?hn84; (case hw84 => rfl); (case hx84 => (simp only [List.map_toArray, List.map_cons, List.map_nil, Act.eval, Array.getD_eq_getD_getElem?, List.getElem?_toArray, List.getElem?_cons_succ, List.getElem?_cons_zero, Option.getD_some]; (try rfl))); (try simp only [Act.put, List.setIfInBounds_toArray, List.set_cons_zero, List.set_cons_succ]))
                (refine sq_append (by simp only [List.getElem?_toArray, List.getElem?_cons_succ, List.getElem?_cons_zero]; rfl) ?hw85 rfl ?hx85 ?hz85 hap ?hn85; (case hw85 => rfl); (case hx85 => (simp only [Act.eval, Array.getD_eq_getD_getElem?, List.getElem?_toArray, List.getElem?_cons_succ, List.getElem?_cons_zero, Option.getD_some]; (try rfl))); (case hz85 => (simp only [Act.eval, Array.getD_eq_getD_getElem?, List.getElem?_toArray, List.getElem?_cons_succ, List.getElem?_cons_zero, Option.getD_some]; (try rfl))); (try simp only [Act.put, List.setIfInBounds_toArray, List.set_cons_zero, List.set_cons_succ]))
                (refine sq_val (v := ?v86) (by simp only [List.getElem?_toArray, List.getElem?_cons_succ, List.getElem?_cons_zero]; rfl) ?hw86 ?hy86 ?hn86; (case hw86 => rfl); (case hy86 => (go_simp; (try with_reducible rfl))); (try simp only [Act.put, List.setIfInBounds_toArray, List.set_cons_zero, List.set_cons_succ]))
                refine sq_nil ?_
                clear hap hbs
                go_wp2_with fail
                go_meet
                exact ⟨H ++ [(⟨xa, xl, xc⟩, wi)], HO6.out, HT6.out, HP6, by simp; omega, HL6, fun h hh => (by
                  rcases List.mem_append.1 hh with hh | hh
                  · exact HH.out h hh
                  · simp at hh
                    subst hh
                    exact ⟨hwN, hxr, hxl⟩), by omega, kl6, mm6⟩
            case rest =>
              clear HT4 HO4 kl4 mm4 HF HH HT HQ HO HPW HLn
              obtain ⟨H', hO7, hT7, HP7, hHi7, HL7, hS7, hge7, kl7, mm7⟩ := hcut
              obtain ⟨aH7, cH7, rfl, hq7, haH7, _⟩ := hO7.at haveT
              have HO7 := Lib.hid hO7
              have HT7 := Lib.hid hT7
              have HQ7 := Lib.hid hq7
              have HS7 := Lib.hid hS7
              clear hO7 hT7 hq7 hS7 haH7
              cases xb with
              | false =>
                go_wp2_with fail
                go_loopw [17] (fun s17 wk => ∃ k : Nat, k ≤ H'.length ∧ s17 = .int .i64 k ∧ Mod (fun _ => False) wc wk) (fun s17 _ => H'.length - (intOf s17).toNat)
                case atStart => exact ⟨0, by omega, rfl, Mod.refl _ _⟩
                case round =>
                  obtain ⟨k, hk, rfl, m7⟩ := hrel
                  obtain ⟨wk, rfl⟩ : ∃ wk : World, wk = wr := ⟨_, rfl⟩
                  by_cases hkH : k < H'.length
                  · go_wp2_with fail
                    go_loopw [18] (fun s18 wj => ∃ j : Nat, j ≤ k ∧ s18 = .int .i64 j ∧ Mod (fun _ => False) wc wj) (fun s18 _ => k - (intOf s18).toNat)
                    case atStart => exact ⟨0, by omega, rfl, m7⟩
                    case round =>
                      clear m7
                      obtain ⟨j, hj, rfl, m8⟩ := hrel
                      by_cases hjk : j < k
                      · obtain ⟨x, hx⟩ : ∃ h, H'[k]? = some h := ⟨_, List.getElem?_eq_getElem hkH⟩
                        obtain ⟨y, hy⟩ : ∃ h, H'[j]? = some h := ⟨_, List.getElem?_eq_getElem (by omega)⟩
                        obtain ⟨gq, oq, Cq, Uq, frq, eq1, klq, hex, hlex⟩ := (HQ7.out.mod0 m8).block hx
                        obtain ⟨gq', oq', Cq', Uq', frq', eq2, klq', hey, hley⟩ := (HQ7.out.mod0 m8).block hy
                        rw [eq1] at eq2
                        cases eq2
                        rw [klq] at klq'
                        cases klq'
                        subst eq1
                        have hjH : j < H'.length := by omega
                        have hX1 : Cq[oq + k * 3 + 1]? = some x.1.v := cellC hex (j := 1) rfl
                        have hX2 : Cq[oq + k * 3 + 2]? = some (.int .i64 (x.2.val : Int)) := cellC hex (j := 2) rfl
                        have hY1 : Cq[oq + j * 3 + 1]? = some y.1.v := cellC hey (j := 1) rfl
                        have hY2 : Cq[oq + j * 3 + 2]? = some (.int .i64 (y.2.val : Int)) := cellC hey (j := 2) rfl
                        obtain ⟨_, hxr8, hxl8⟩ := HS7.out x (List.mem_of_getElem? hx)
                        obtain ⟨_, hyr8, hyl8⟩ := HS7.out y (List.mem_of_getElem? hy)
                        have mm8 := mm7.then0 m8
                        replace hxr8 := RolesAt.mod0 hxr8 mm8
                        replace hyr8 := RolesAt.mod0 hyr8 mm8
                        by_cases hxy : x.2 = y.2
                        · have hnb : (((x.2.val : Nat) : Int) != ((y.2.val : Nat) : Int)) = false := by rw [hxy]; simp
                          obtain ⟨⟨xa8, xl8, xc8⟩, xi8⟩ := x
                          obtain ⟨⟨ya8, yl8, yc8⟩, yi8⟩ := y
                          dsimp only at hX1 hX2 hY1 hY2 hnb hxr8 hyr8 hxl8 hyl8
                          unfold Sl.v at hX1 hY1
                          clear hex hey hx hy hxy
                          go_upto_region 39 with fail
                          have Lklq := lt_size klq
                          refine wp_pass (C := fun _ _ _ => False) (κ := fun i => [0, 0, 0, 0, 1, 0, 0, 0, 0, 1, 0, 0, 0, 0, 0, 0, 1, 0, 0, 0, 0, 1, 0, 0].getD i 0) [0, 1, 2, 3, 4, 5, 6, 7, 8, 9, 10, 11, 12, 13, 14, 15, 16, 17, 18, 19, 20, 21, 22, 23] (by kernel_rfl) (by kernel_rfl) (fun _ _ d _ _ h => by cases d <;> exact h) ?_
                          (refine TD.val0 (v := ?v87) (by simp only [List.getElem?_toArray, List.getElem?_cons_succ, List.getElem?_cons_zero]; rfl) rfl ?hw87 (fun w1 => ?hy87) ?hn87; (case hw87 => rfl); (case hy87 => (go_simp; (try with_reducible rfl))); (try simp only [Act.put, List.setIfInBounds_toArray, List.set_cons_zero, List.set_cons_succ]))
                          (refine TD.val0 (v := ?v88) (by simp only [List.getElem?_toArray, List.getElem?_cons_succ, List.getElem?_cons_zero]; rfl) rfl ?hw88 (fun w1 => ?hy88) ?hn88; (case hw88 => rfl); (case hy88 => (go_simp; (try with_reducible rfl))); (try simp only [Act.put, List.setIfInBounds_toArray, List.set_cons_zero, List.set_cons_succ]))
                          (refine TD.val0 (v := ?v89) (by simp only [List.getElem?_toArray, List.getElem?_cons_succ, List.getElem?_cons_zero]; rfl) rfl ?hw89 (fun w1 => ?hy89) ?hn89; (case hw89 => rfl); (case hy89 => (go_simp; (try with_reducible rfl))); (try simp only [Act.put, List.setIfInBounds_toArray, List.set_cons_zero, List.set_cons_succ]))
                          (refine TD.val0 (v := ?v90) (by simp only [List.getElem?_toArray, List.getElem?_cons_succ, List.getElem?_cons_zero]; rfl) rfl ?hw90 (fun w1 => ?hy90) ?hn90; (case hw90 => rfl); (case hy90 => (go_simp; (try with_reducible rfl))); (try simp only [Act.put, List.setIfInBounds_toArray, List.set_cons_zero, List.set_cons_succ]))
                          (refine TD.load (v := ?v91) (p := ?p91) (Mod.refl _ _) (by simp only [List.getElem?_toArray, List.getElem?_cons_succ, List.getElem?_cons_zero]; rfl) rfl ?hw91 rfl ?hx91 (fun wq hSq => ?hy91) ?hn91; (case hw91 => rfl); (case hx91 => (simp only [Act.eval, Array.getD_eq_getD_getElem?, List.getElem?_toArray, List.getElem?_cons_succ, List.getElem?_cons_zero, Option.getD_some]; (try rfl))); (case hy91 => (have klqq := hSq.at klq (fun h => h); go_simp; (try with_reducible rfl))); (try simp only [Act.put, List.setIfInBounds_toArray, List.set_cons_zero, List.set_cons_succ]))
                          (refine TD.val0 (v := ?v92) (by simp only [List.getElem?_toArray, List.getElem?_cons_succ, List.getElem?_cons_zero]; rfl) rfl ?hw92 (fun w1 => ?hy92) ?hn92; (case hw92 => rfl); (case hy92 => (go_simp; (try with_reducible rfl))); (try simp only [Act.put, List.setIfInBounds_toArray, List.set_cons_zero, List.set_cons_succ]))
                          (refine TD.val0 (v := ?v93) (by simp only [List.getElem?_toArray, List.getElem?_cons_succ, List.getElem?_cons_zero]; rfl) rfl ?hw93 (fun w1 => ?hy93) ?hn93; (case hw93 => rfl); (case hy93 => (go_simp; (try with_reducible rfl))); (try simp only [Act.put, List.setIfInBounds_toArray, List.set_cons_zero, List.set_cons_succ]))
                          (refine TD.val0 (v := ?v94) (by simp only [List.getElem?_toArray, List.getElem?_cons_succ, List.getElem?_cons_zero]; rfl) rfl ?hw94 (fun w1 => ?hy94) ?hn94; (case hw94 => rfl); (case hy94 => (go_simp; (try with_reducible rfl))); (try simp only [Act.put, List.setIfInBounds_toArray, List.set_cons_zero, List.set_cons_succ]))
                          (refine TD.val0 (v := ?v95) (by simp only [List.getElem?_toArray, List.getElem?_cons_succ, List.getElem?_cons_zero]; rfl) rfl ?hw95 (fun w1 => ?hy95) ?hn95; (case hw95 => rfl); (case hy95 => (go_simp; (try with_reducible rfl))); (try simp only [Act.put, List.setIfInBounds_toArray, List.set_cons_zero, List.set_cons_succ]))
                          (refine TD.load (v := ?v96) (p := ?p96) (Mod.refl _ _) (by simp only [List.getElem?_toArray, List.getElem?_cons_succ, List.getElem?_cons_zero]; rfl) rfl ?hw96 rfl ?hx96 (fun wq hSq => ?hy96) ?hn96; (case hw96 => rfl); (case hx96 => (simp only [Act.eval, Array.getD_eq_getD_getElem?, List.getElem?_toArray, List.getElem?_cons_succ, List.getElem?_cons_zero, Option.getD_some]; (try rfl))); (case hy96 => (have klqq := hSq.at klq (fun h => h); go_simp; (try with_reducible rfl))); (try simp only [Act.put, List.setIfInBounds_toArray, List.set_cons_zero, List.set_cons_succ]))
                          (refine TD.val0 (v := ?v97) (by simp only [List.getElem?_toArray, List.getElem?_cons_succ, List.getElem?_cons_zero]; rfl) rfl ?hw97 (fun w1 => ?hy97) ?hn97; (case hw97 => rfl); (case hy97 => (go_simp; (try with_reducible rfl))); (try simp only [Act.put, List.setIfInBounds_toArray, List.set_cons_zero, List.set_cons_succ]))
                          (refine TD.val0 (v := ?v98) (by simp only [List.getElem?_toArray, List.getElem?_cons_succ, List.getElem?_cons_zero]; rfl) rfl ?hw98 (fun w1 => ?hy98) ?hn98; (case hw98 => rfl); (case hy98 => (go_simp; (try with_reducible rfl))); (try simp only [Act.put, List.setIfInBounds_toArray, List.set_cons_zero, List.set_cons_succ]))
                          (refine TD.pass (by simp only [List.getElem?_toArray, List.getElem?_cons_succ, List.getElem?_cons_zero]; rfl) rfl ?hw99 ?hn99; (case hw99 => rfl); (try simp only [Act.put, List.setIfInBounds_toArray, List.set_cons_zero, List.set_cons_succ]))
                          (refine TD.pass (by simp only [List.getElem?_toArray, List.getElem?_cons_succ, List.getElem?_cons_zero]; rfl) rfl ?hw100 ?hn100; (case hw100 => rfl); (try simp only [Act.put, List.setIfInBounds_toArray, List.set_cons_zero, List.set_cons_succ]))
                          (refine TD.pass (by simp only [List.getElem?_toArray, List.getElem?_cons_succ, List.getElem?_cons_zero]; rfl) rfl ?hw101 ?hn101; (case hw101 => rfl); (try simp only [Act.put, List.setIfInBounds_toArray, List.set_cons_zero, List.set_cons_succ]))
                          (refine TD.pass (by simp only [List.getElem?_toArray, List.getElem?_cons_succ, List.getElem?_cons_zero]; rfl) rfl ?hw102 ?hn102; (case hw102 => rfl); (try simp only [Act.put, List.setIfInBounds_toArray, List.set_cons_zero, List.set_cons_succ]))
                          (refine TD.pass1 (by simp only [List.getElem?_toArray, List.getElem?_cons_succ, List.getElem?_cons_zero]; rfl) rfl ?hw103 ?hn103; (case hw103 => rfl); (try simp only [Act.put, List.setIfInBounds_toArray, List.set_cons_zero, List.set_cons_succ]))
                          (refine TD.pass (by simp only [List.getElem?_toArray, List.getElem?_cons_succ, List.getElem?_cons_zero]; rfl) rfl ?hw104 ?hn104; (case hw104 => rfl); (try simp only [Act.put, List.setIfInBounds_toArray, List.set_cons_zero, List.set_cons_succ]))
                          (refine TD.pass (by simp only [List.getElem?_toArray, List.getElem?_cons_succ, List.getElem?_cons_zero]; rfl) rfl ?hw105 ?hn105; (case hw105 => rfl); (try simp only [Act.put, List.setIfInBounds_toArray, List.set_cons_zero, List.set_cons_succ]))
                          (refine TD.pass (by simp only [List.getElem?_toArray, List.getElem?_cons_succ, List.getElem?_cons_zero]; rfl) rfl ?hw106 ?hn106; (case hw106 => rfl); (try simp only [Act.put, List.setIfInBounds_toArray, List.set_cons_zero, List.set_cons_succ]))
                          (refine TD.pass (by simp only [List.getElem?_toArray, List.getElem?_cons_succ, List.getElem?_cons_zero]; rfl) rfl ?hw107 ?hn107; (case hw107 => rfl); (try simp only [Act.put, List.setIfInBounds_toArray, List.set_cons_zero, List.set_cons_succ]))
                          (refine TD.pass1 (by simp only [List.getElem?_toArray, List.getElem?_cons_succ, List.getElem?_cons_zero]; rfl) rfl ?hw108 ?hn108; (case hw108 => rfl); (try simp only [Act.put, List.setIfInBounds_toArray, List.set_cons_zero, List.set_cons_succ]))
                          (refine TD.pass (by simp only [List.getElem?_toArray, List.getElem?_cons_succ, List.getElem?_cons_zero]; rfl) rfl ?hw109 ?hn109; (case hw109 => rfl); (try simp only [Act.put, List.setIfInBounds_toArray, List.set_cons_zero, List.set_cons_succ]))
                          (refine TD.val0 (v := ?v110) (by simp only [List.getElem?_toArray, List.getElem?_cons_succ, List.getElem?_cons_zero]; rfl) rfl ?hw110 (fun w1 => ?hy110) ?hn110; (case hw110 => rfl); (case hy110 => (go_simp; (try with_reducible rfl))); (try simp only [Act.put, List.setIfInBounds_toArray, List.set_cons_zero, List.set_cons_succ]))
                          refine TD.nil (fun w9 hr => ?_)
                          have klq := hr.mod.at klq (fun h => h)
                          have m9 := m8.then0 hr.mod
                          go_wp2_with fail
                          go_roundw
                          case rel => exact ⟨j + 1, by omega, by go_num, m9⟩
                          case measure => simp [intOf]; omega
                        · have hnb : (((x.2.val : Nat) : Int) != ((y.2.val : Nat) : Int)) = true := by
                            rw [bne_iff_ne]
                            intro e
                            exact hxy (Fin.ext (by omega))
                          have hcf := HP7.out.get hy hx hjk hxy
                          obtain ⟨⟨xa8, xl8, xc8⟩, xi8⟩ := x
                          obtain ⟨⟨ya8, yl8, yc8⟩, yi8⟩ := y
                          dsimp only at hX1 hX2 hY1 hY2 hnb hxr8 hyr8 hxl8 hyl8 hcf
                          unfold Sl.v at hX1 hY1
                          have HCF := Lib.hid hcf
                          clear hex hey hx hy hxy hcf
                          go_upto_region 39 with fail
                          have Lklq := lt_size klq
                          refine wp_pass (C := fun _ _ v => v = .bool false) (κ := fun i => [0, 0, 0, 0, 1, 0, 0, 0, 0, 1, 0, 0, 0, 0, 0, 0, 1, 0, 0, 0, 0, 1, 2, 0].getD i 0) [0, 1, 2, 3, 4, 5, 6, 7, 8, 9, 10, 11, 12, 13, 14, 15, 16, 17, 18, 19, 20, 21, 22, 23] (by kernel_rfl) (by kernel_rfl) (fun _ _ d _ _ h => by cases d <;> exact h) ?_
                          (refine TD.val0 (v := ?v111) (by simp only [List.getElem?_toArray, List.getElem?_cons_succ, List.getElem?_cons_zero]; rfl) rfl ?hw111 (fun w1 => ?hy111) ?hn111; (case hw111 => rfl); (case hy111 => (go_simp; (try with_reducible rfl))); (try simp only [Act.put, List.setIfInBounds_toArray, List.set_cons_zero, List.set_cons_succ]))
                          (refine TD.val0 (v := ?v112) (by simp only [List.getElem?_toArray, List.getElem?_cons_succ, List.getElem?_cons_zero]; rfl) rfl ?hw112 (fun w1 => ?hy112) ?hn112; (case hw112 => rfl); (case hy112 => (go_simp; (try with_reducible rfl))); (try simp only [Act.put, List.setIfInBounds_toArray, List.set_cons_zero, List.set_cons_succ]))
                          (refine TD.val0 (v := ?v113) (by simp only [List.getElem?_toArray, List.getElem?_cons_succ, List.getElem?_cons_zero]; rfl) rfl ?hw113 (fun w1 => ?hy113) ?hn113; (case hw113 => rfl); (case hy113 => (go_simp; (try with_reducible rfl))); (try simp only [Act.put, List.setIfInBounds_toArray, List.set_cons_zero, List.set_cons_succ]))
                          (refine TD.val0 (v := ?v114) (by simp only [List.getElem?_toArray, List.getElem?_cons_succ, List.getElem?_cons_zero]; rfl) rfl ?hw114 (fun w1 => ?hy114) ?hn114; (case hw114 => rfl); (case hy114 => (go_simp; (try with_reducible rfl))); (try simp only [Act.put, List.setIfInBounds_toArray, List.set_cons_zero, List.set_cons_succ]))
                          (refine TD.load (v := ?v115) (p := ?p115) (Mod.refl _ _) (by simp only [List.getElem?_toArray, List.getElem?_cons_succ, List.getElem?_cons_zero]; rfl) rfl ?hw115 rfl ?hx115 (fun wq hSq => ?hy115) ?hn115; (case hw115 => rfl); (case hx115 => (simp only [Act.eval, Array.getD_eq_getD_getElem?, List.getElem?_toArray, List.getElem?_cons_succ, List.getElem?_cons_zero, Option.getD_some]; (try rfl))); (case hy115 => (have klqq := hSq.at klq (fun h => h); go_simp; (try with_reducible rfl))); (try simp only [Act.put, List.setIfInBounds_toArray, List.set_cons_zero, List.set_cons_succ]))
                          (refine TD.val0 (v := ?v116) (by simp only [List.getElem?_toArray, List.getElem?_cons_succ, List.getElem?_cons_zero]; rfl) rfl ?hw116 (fun w1 => ?hy116) ?hn116; (case hw116 => rfl); (case hy116 => (go_simp; (try with_reducible rfl))); (try simp only [Act.put, List.setIfInBounds_toArray, List.set_cons_zero, List.set_cons_succ]))
                          (refine TD.val0 (v := ?v117) (by simp only [List.getElem?_toArray, List.getElem?_cons_succ, List.getElem?_cons_zero]; rfl) rfl ?hw117 (fun w1 => ?hy117) ?hn117; (case hw117 => rfl); (case hy117 => (go_simp; (try with_reducible rfl))); (try simp only [Act.put, List.setIfInBounds_toArray, List.set_cons_zero, List.set_cons_succ]))
                          (refine TD.val0 (v := ?v118) (by simp only [List.getElem?_toArray, List.getElem?_cons_succ, List.getElem?_cons_zero]; rfl) rfl ?hw118 (fun w1 => ?hy118) ?hn118; (case hw118 => rfl); (case hy118 => (go_simp; (try with_reducible rfl))); (try simp only [Act.put, List.setIfInBounds_toArray, List.set_cons_zero, List.set_cons_succ]))
                          (refine TD.val0 (v := ?v119) (by simp only [List.getElem?_toArray, List.getElem?_cons_succ, List.getElem?_cons_zero]; rfl) rfl ?hw119 (fun w1 => ?hy119) ?hn119; (case hw119 => rfl); (case hy119 => (go_simp; (try with_reducible rfl))); (try simp only [Act.put, List.setIfInBounds_toArray, List.set_cons_zero, List.set_cons_succ]))
                          (refine TD.load (v := ?v120) (p := ?p120) (Mod.refl _ _) (by simp only [List.getElem?_toArray, List.getElem?_cons_succ, List.getElem?_cons_zero]; rfl) rfl ?hw120 rfl ?hx120 (fun wq hSq => ?hy120) ?hn120; (case hw120 => rfl); (case hx120 => (simp only [Act.eval, Array.getD_eq_getD_getElem?, List.getElem?_toArray, List.getElem?_cons_succ, List.getElem?_cons_zero, Option.getD_some]; (try rfl))); (case hy120 => (have klqq := hSq.at klq (fun h => h); go_simp; (try with_reducible rfl))); (try simp only [Act.put, List.setIfInBounds_toArray, List.set_cons_zero, List.set_cons_succ]))
                          (refine TD.val0 (v := ?v121) (by simp only [List.getElem?_toArray, List.getElem?_cons_succ, List.getElem?_cons_zero]; rfl) rfl ?hw121 (fun w1 => ?hy121) ?hn121; (case hw121 => rfl); (case hy121 => (go_simp; (try with_reducible rfl))); (try simp only [Act.put, List.setIfInBounds_toArray, List.set_cons_zero, List.set_cons_succ]))
                          (refine TD.val0 (v := ?v122) (by simp only [List.getElem?_toArray, List.getElem?_cons_succ, List.getElem?_cons_zero]; rfl) rfl ?hw122 (fun w1 => ?hy122) ?hn122; (case hw122 => rfl); (case hy122 => (go_simp; (try with_reducible rfl))); (try simp only [Act.put, List.setIfInBounds_toArray, List.set_cons_zero, List.set_cons_succ]))
                          (refine TD.val0 (v := ?v123) (by simp only [List.getElem?_toArray, List.getElem?_cons_succ, List.getElem?_cons_zero]; rfl) rfl ?hw123 (fun w1 => ?hy123) ?hn123; (case hw123 => rfl); (case hy123 => (go_simp; (try with_reducible rfl))); (try simp only [Act.put, List.setIfInBounds_toArray, List.set_cons_zero, List.set_cons_succ]))
                          (refine TD.val0 (v := ?v124) (by simp only [List.getElem?_toArray, List.getElem?_cons_succ, List.getElem?_cons_zero]; rfl) rfl ?hw124 (fun w1 => ?hy124) ?hn124; (case hw124 => rfl); (case hy124 => (go_simp; (try with_reducible rfl))); (try simp only [Act.put, List.setIfInBounds_toArray, List.set_cons_zero, List.set_cons_succ]))
                          (refine TD.val0 (v := ?v125) (by simp only [List.getElem?_toArray, List.getElem?_cons_succ, List.getElem?_cons_zero]; rfl) rfl ?hw125 (fun w1 => ?hy125) ?hn125; (case hw125 => rfl); (case hy125 => (go_simp; (try with_reducible rfl))); (try simp only [Act.put, List.setIfInBounds_toArray, List.set_cons_zero, List.set_cons_succ]))
                          (refine TD.val0 (v := ?v126) (by simp only [List.getElem?_toArray, List.getElem?_cons_succ, List.getElem?_cons_zero]; rfl) rfl ?hw126 (fun w1 => ?hy126) ?hn126; (case hw126 => rfl); (case hy126 => (go_simp; (try with_reducible rfl))); (try simp only [Act.put, List.setIfInBounds_toArray, List.set_cons_zero, List.set_cons_succ]))
                          (refine TD.load (v := ?v127) (p := ?p127) (Mod.refl _ _) (by simp only [List.getElem?_toArray, List.getElem?_cons_succ, List.getElem?_cons_zero]; rfl) rfl ?hw127 rfl ?hx127 (fun wq hSq => ?hy127) ?hn127; (case hw127 => rfl); (case hx127 => (simp only [Act.eval, Array.getD_eq_getD_getElem?, List.getElem?_toArray, List.getElem?_cons_succ, List.getElem?_cons_zero, Option.getD_some]; (try rfl))); (case hy127 => (have klqq := hSq.at klq (fun h => h); go_simp; (try with_reducible rfl))); (try simp only [Act.put, List.setIfInBounds_toArray, List.set_cons_zero, List.set_cons_succ]))
                          (refine TD.val0 (v := ?v128) (by simp only [List.getElem?_toArray, List.getElem?_cons_succ, List.getElem?_cons_zero]; rfl) rfl ?hw128 (fun w1 => ?hy128) ?hn128; (case hw128 => rfl); (case hy128 => (go_simp; (try with_reducible rfl))); (try simp only [Act.put, List.setIfInBounds_toArray, List.set_cons_zero, List.set_cons_succ]))
                          (refine TD.val0 (v := ?v129) (by simp only [List.getElem?_toArray, List.getElem?_cons_succ, List.getElem?_cons_zero]; rfl) rfl ?hw129 (fun w1 => ?hy129) ?hn129; (case hw129 => rfl); (case hy129 => (go_simp; (try with_reducible rfl))); (try simp only [Act.put, List.setIfInBounds_toArray, List.set_cons_zero, List.set_cons_succ]))
                          (refine TD.val0 (v := ?v130) (by simp only [List.getElem?_toArray, List.getElem?_cons_succ, List.getElem?_cons_zero]; rfl) rfl ?hw130 (fun w1 => ?hy130) ?hn130; (case hw130 => rfl); (case hy130 => (go_simp; (try with_reducible rfl))); (try simp only [Act.put, List.setIfInBounds_toArray, List.set_cons_zero, List.set_cons_succ]))
                          (refine TD.val0 (v := ?v131) (by simp only [List.getElem?_toArray, List.getElem?_cons_succ, List.getElem?_cons_zero]; rfl) rfl ?hw131 (fun w1 => ?hy131) ?hn131; (case hw131 => rfl); (case hy131 => (go_simp; (try with_reducible rfl))); (try simp only [Act.put, List.setIfInBounds_toArray, List.set_cons_zero, List.set_cons_succ]))
                          (refine TD.load (v := ?v132) (p := ?p132) (Mod.refl _ _) (by simp only [List.getElem?_toArray, List.getElem?_cons_succ, List.getElem?_cons_zero]; rfl) rfl ?hw132 rfl ?hx132 (fun wq hSq => ?hy132) ?hn132; (case hw132 => rfl); (case hx132 => (simp only [Act.eval, Array.getD_eq_getD_getElem?, List.getElem?_toArray, List.getElem?_cons_succ, List.getElem?_cons_zero, Option.getD_some]; (try rfl))); (case hy132 => (have klqq := hSq.at klq (fun h => h); go_simp; (try with_reducible rfl))); (try simp only [Act.put, List.setIfInBounds_toArray, List.set_cons_zero, List.set_cons_succ]))
                          (refine TD.call (f := ?f133) (args := ?r133) (Mod.refl _ _) (by simp only [List.getElem?_toArray, List.getElem?_cons_succ, List.getElem?_cons_zero]; rfl) rfl ?hw133 (fun w1 => ?hy133) ?hsp133 ?hn133; (case hw133 => rfl); (case hy133 => (go_simp; (first | with_reducible rfl | (constructor <;> with_reducible rfl)))); (case hsp133 => (intro wq hSq; have klqq := hSq.at klq (fun h => h); exact (conflict_c xa8 ya8 xl8 yl8 _ _ wq (hxr8.mod0 hSq) (hyr8.mod0 hSq) (by omega) (by omega)).mono (fun e w' h => ⟨_, h.1, by rw [HCF.out], h.2⟩))); rintro _ rfl; (try simp only [Act.put, List.setIfInBounds_toArray, List.set_cons_zero, List.set_cons_succ]))
                          (refine TD.val0 (v := ?v134) (by simp only [List.getElem?_toArray, List.getElem?_cons_succ, List.getElem?_cons_zero]; rfl) rfl ?hw134 (fun w1 => ?hy134) ?hn134; (case hw134 => rfl); (case hy134 => (go_simp; (try with_reducible rfl))); (try simp only [Act.put, List.setIfInBounds_toArray, List.set_cons_zero, List.set_cons_succ]))
                          refine TD.nil (fun w9 hr => ?_)
                          have klq := hr.mod.at klq (fun h => h)
                          have m9 := m8.then0 hr.mod
                          go_wp2_with fail
                          go_roundw
                          case rel => exact ⟨j + 1, by omega, by go_num, m9⟩
                          case measure => simp [intOf]; omega
                      · obtain rfl : k = j := by omega
                        go_wp2_with fail
                        go_roundw
                        case rel => exact ⟨k + 1, by omega, by go_num, m8⟩
                        case measure => simp [intOf]; omega
                  · have hs7 := m7.size
                    go_wp2_with fail
                    go_roundw
                    case rel => exact ⟨i + 1, H', by omega, by go_num, HT7.out.mod0 m7, HO7.out.mod0 m7, HP7, by omega, HL7, HS7.out, by omega, mm7.then0 m7⟩
                    case measure => simp [intOf]; omega
              | true =>
                by_cases hne : H'.length = 0
                · have hp : ¬ (0 : Int) < (H'.length : Int) := by omega
                  clear hne
                  go_wp2_with fail
                  go_loopw [17] (fun s17 wk => ∃ k : Nat, k ≤ H'.length ∧ s17 = .int .i64 k ∧ Mod (fun _ => False) wc wk) (fun s17 _ => H'.length - (intOf s17).toNat)
                  case atStart => exact ⟨0, by omega, rfl, Mod.refl _ _⟩
                  case round =>
                    obtain ⟨k, hk, rfl, m7⟩ := hrel
                    obtain ⟨wk, rfl⟩ : ∃ wk : World, wk = wr := ⟨_, rfl⟩
                    by_cases hkH : k < H'.length
                    · go_wp2_with fail
                      go_loopw [18] (fun s18 wj => ∃ j : Nat, j ≤ k ∧ s18 = .int .i64 j ∧ Mod (fun _ => False) wc wj) (fun s18 _ => k - (intOf s18).toNat)
                      case atStart => exact ⟨0, by omega, rfl, m7⟩
                      case round =>
                        clear m7
                        obtain ⟨j, hj, rfl, m8⟩ := hrel
                        by_cases hjk : j < k
                        · obtain ⟨x, hx⟩ : ∃ h, H'[k]? = some h := ⟨_, List.getElem?_eq_getElem hkH⟩
                          obtain ⟨y, hy⟩ : ∃ h, H'[j]? = some h := ⟨_, List.getElem?_eq_getElem (by omega)⟩
                          obtain ⟨gq, oq, Cq, Uq, frq, eq1, klq, hex, hlex⟩ := (HQ7.out.mod0 m8).block hx
                          obtain ⟨gq', oq', Cq', Uq', frq', eq2, klq', hey, hley⟩ := (HQ7.out.mod0 m8).block hy
                          rw [eq1] at eq2
                          cases eq2
                          rw [klq] at klq'
                          cases klq'
                          subst eq1
                          have hjH : j < H'.length := by omega
                          have hX1 : Cq[oq + k * 3 + 1]? = some x.1.v := cellC hex (j := 1) rfl
                          have hX2 : Cq[oq + k * 3 + 2]? = some (.int .i64 (x.2.val : Int)) := cellC hex (j := 2) rfl
                          have hY1 : Cq[oq + j * 3 + 1]? = some y.1.v := cellC hey (j := 1) rfl
                          have hY2 : Cq[oq + j * 3 + 2]? = some (.int .i64 (y.2.val : Int)) := cellC hey (j := 2) rfl
                          obtain ⟨_, hxr8, hxl8⟩ := HS7.out x (List.mem_of_getElem? hx)
                          obtain ⟨_, hyr8, hyl8⟩ := HS7.out y (List.mem_of_getElem? hy)
                          have mm8 := mm7.then0 m8
                          replace hxr8 := RolesAt.mod0 hxr8 mm8
                          replace hyr8 := RolesAt.mod0 hyr8 mm8
                          by_cases hxy : x.2 = y.2
                          · have hnb : (((x.2.val : Nat) : Int) != ((y.2.val : Nat) : Int)) = false := by rw [hxy]; simp
                            obtain ⟨⟨xa8, xl8, xc8⟩, xi8⟩ := x
                            obtain ⟨⟨ya8, yl8, yc8⟩, yi8⟩ := y
                            dsimp only at hX1 hX2 hY1 hY2 hnb hxr8 hyr8 hxl8 hyl8
                            unfold Sl.v at hX1 hY1
                            clear hex hey hx hy hxy
                            go_upto_region 39 with fail
                            have Lklq := lt_size klq
                            refine wp_pass (C := fun _ _ _ => False) (κ := fun i => [0, 0, 0, 0, 1, 0, 0, 0, 0, 1, 0, 0, 0, 0, 0, 0, 1, 0, 0, 0, 0, 1, 0, 0].getD i 0) [0, 1, 2, 3, 4, 5, 6, 7, 8, 9, 10, 11, 12, 13, 14, 15, 16, 17, 18, 19, 20, 21, 22, 23] (by kernel_rfl) (by kernel_rfl) (fun _ _ d _ _ h => by cases d <;> exact h) ?_
                            (refine TD.val0 (v := ?v135) (by simp only [List.getElem?_toArray, List.getElem?_cons_succ, List.getElem?_cons_zero]; rfl) rfl ?hw135 (fun w1 => ?hy135) ?hn135; (case hw135 => rfl); (case hy135 => (go_simp; (try with_reducible rfl))); (try simp only [Act.put, List.setIfInBounds_toArray, List.set_cons_zero, List.set_cons_succ]))
                            (refine TD.val0 (v := ?v136) (by simp only [List.getElem?_toArray, List.getElem?_cons_succ, List.getElem?_cons_zero]; rfl) rfl ?hw136 (fun w1 => ?hy136) ?hn136; (case hw136 => rfl); (case hy136 => (go_simp; (try with_reducible rfl))); (try simp only [Act.put, List.setIfInBounds_toArray, List.set_cons_zero, List.set_cons_succ]))
                            (refine TD.val0 (v := ?v137) (by simp only [List.getElem?_toArray, List.getElem?_cons_succ, List.getElem?_cons_zero]; rfl) rfl ?hw137 (fun w1 => ?hy137) ?hn137; (case hw137 => rfl); (case hy137 => (go_simp; (try with_reducible rfl))); (try simp only [Act.put, List.setIfInBounds_toArray, List.set_cons_zero, List.set_cons_succ]))
                            (refine TD.val0 (v := ?v138) (by simp only [List.getElem?_toArray, List.getElem?_cons_succ, List.getElem?_cons_zero]; rfl) rfl ?hw138 (fun w1 => ?hy138) ?hn138; (case hw138 => rfl); (case hy138 => (go_simp; (try with_reducible rfl))); (try simp only [Act.put, List.setIfInBounds_toArray, List.set_cons_zero, List.set_cons_succ]))
                            (refine TD.load (v := ?v139) (p := ?p139) (Mod.refl _ _) (by simp only [List.getElem?_toArray, List.getElem?_cons_succ, List.getElem?_cons_zero]; rfl) rfl ?hw139 rfl ?hx139 (fun wq hSq => ?hy139) ?hn139; (case hw139 => rfl); (case hx139 => (simp only [Act.eval, Array.getD_eq_getD_getElem?, List.getElem?_toArray, List.getElem?_cons_succ, List.getElem?_cons_zero, Option.getD_some]; (try rfl))); (case hy139 => (have klqq := hSq.at klq (fun h => h); go_simp; (try with_reducible rfl))); (try simp only [Act.put, List.setIfInBounds_toArray, List.set_cons_zero, List.set_cons_succ]))
                            (refine TD.val0 (v := ?v140) (by simp only [List.getElem?_toArray, List.getElem?_cons_succ, List.getElem?_cons_zero]; rfl) rfl ?hw140 (fun w1 => ?hy140) ?hn140; (case hw140 => rfl); (case hy140 => (go_simp; (try with_reducible rfl))); (try simp only [Act.put, List.setIfInBounds_toArray, List.set_cons_zero, List.set_cons_succ]))
                            (refine TD.val0 (v := ?v141) (by simp only [List.getElem?_toArray, List.getElem?_cons_succ, List.getElem?_cons_zero]; rfl) rfl ?hw141 (fun w1 => ?hy141) ?hn141; (case hw141 => rfl); (case hy141 => (go_simp; (try with_reducible rfl))); (try simp only [Act.put, List.setIfInBounds_toArray, List.set_cons_zero, List.set_cons_succ]))
                            (refine TD.val0 (v := ?v142) (by simp only [List.getElem?_toArray, List.getElem?_cons_succ, List.getElem?_cons_zero]; rfl) rfl ?hw142 (fun w1 => ?hy142) ?hn142; (case hw142 => rfl); (case hy142 => (go_simp; (try with_reducible rfl))); (try simp only [Act.put, List.setIfInBounds_toArray, List.set_cons_zero, List.set_cons_succ]))
                            (refine TD.val0 (v := ?v143) (by simp only [List.getElem?_toArray, List.getElem?_cons_succ, List.getElem?_cons_zero]; rfl) rfl ?hw143 (fun w1 => ?hy143) ?hn143; (case hw143 => rfl); (case hy143 => (go_simp; (try with_reducible rfl))); (try simp only [Act.put, List.setIfInBounds_toArray, List.set_cons_zero, List.set_cons_succ]))
                            (refine TD.load (v := ?v144) (p := ?p144) (Mod.refl _ _) (by simp only [List.getElem?_toArray, List.getElem?_cons_succ, List.getElem?_cons_zero]; rfl) rfl ?hw144 rfl ?hx144 (fun wq hSq => ?hy144) ?hn144; (case hw144 => rfl); (case hx144 => (simp only [Act.eval, Array.getD_eq_getD_getElem?, List.getElem?_toArray, List.getElem?_cons_succ, List.getElem?_cons_zero, Option.getD_some]; (try rfl))); (case hy144 => (have klqq := hSq.at klq (fun h => h); go_simp; (try with_reducible rfl))); (try simp only [Act.put, List.setIfInBounds_toArray, List.set_cons_zero, List.set_cons_succ]))
                            (refine TD.val0 (v := ?v145) (by simp only [List.getElem?_toArray, List.getElem?_cons_succ, List.getElem?_cons_zero]; rfl) rfl ?hw145 (fun w1 => ?hy145) ?hn145; (case hw145 => rfl); (case hy145 => (go_simp; (try with_reducible rfl))); (try simp only [Act.put, List.setIfInBounds_toArray, List.set_cons_zero, List.set_cons_succ]))
                            (refine TD.val0 (v := ?v146) (by simp only [List.getElem?_toArray, List.getElem?_cons_succ, List.getElem?_cons_zero]; rfl) rfl ?hw146 (fun w1 => ?hy146) ?hn146; (case hw146 => rfl); (case hy146 => (go_simp; (try with_reducible rfl))); (try simp only [Act.put, List.setIfInBounds_toArray, List.set_cons_zero, List.set_cons_succ]))
                            (refine TD.pass (by simp only [List.getElem?_toArray, List.getElem?_cons_succ, List.getElem?_cons_zero]; rfl) rfl ?hw147 ?hn147; (case hw147 => rfl); (try simp only [Act.put, List.setIfInBounds_toArray, List.set_cons_zero, List.set_cons_succ]))
                            (refine TD.pass (by simp only [List.getElem?_toArray, List.getElem?_cons_succ, List.getElem?_cons_zero]; rfl) rfl ?hw148 ?hn148; (case hw148 => rfl); (try simp only [Act.put, List.setIfInBounds_toArray, List.set_cons_zero, List.set_cons_succ]))
                            (refine TD.pass (by simp only [List.getElem?_toArray, List.getElem?_cons_succ, List.getElem?_cons_zero]; rfl) rfl ?hw149 ?hn149; (case hw149 => rfl); (try simp only [Act.put, List.setIfInBounds_toArray, List.set_cons_zero, List.set_cons_succ]))
                            (refine TD.pass (by simp only [List.getElem?_toArray, List.getElem?_cons_succ, List.getElem?_cons_zero]; rfl) rfl ?hw150 ?hn150; (case hw150 => rfl); (try simp only [Act.put, List.setIfInBounds_toArray, List.set_cons_zero, List.set_cons_succ]))
                            (refine TD.pass1 (by simp only [List.getElem?_toArray, List.getElem?_cons_succ, List.getElem?_cons_zero]; rfl) rfl ?hw151 ?hn151; (case hw151 => rfl); (try simp only [Act.put, List.setIfInBounds_toArray, List.set_cons_zero, List.set_cons_succ]))
                            (refine TD.pass (by simp only [List.getElem?_toArray, List.getElem?_cons_succ, List.getElem?_cons_zero]; rfl) rfl ?hw152 ?hn152; (case hw152 => rfl); (try simp only [Act.put, List.setIfInBounds_toArray, List.set_cons_zero, List.set_cons_succ]))
                            (refine TD.pass (by simp only [List.getElem?_toArray, List.getElem?_cons_succ, List.getElem?_cons_zero]; rfl) rfl ?hw153 ?hn153; (case hw153 => rfl); (try simp only [Act.put, List.setIfInBounds_toArray, List.set_cons_zero, List.set_cons_succ]))
                            (refine TD.pass (by simp only [List.getElem?_toArray, List.getElem?_cons_succ, List.getElem?_cons_zero]; rfl) rfl ?hw154 ?hn154; (case hw154 => rfl); (try simp only [Act.put, List.setIfInBounds_toArray, List.set_cons_zero, List.set_cons_succ]))
                            (refine TD.pass (by simp only [List.getElem?_toArray, List.getElem?_cons_succ, List.getElem?_cons_zero]; rfl) rfl ?hw155 ?hn155; (case hw155 => rfl); (try simp only [Act.put, List.setIfInBounds_toArray, List.set_cons_zero, List.set_cons_succ]))
                            (refine TD.pass1 (by simp only [List.getElem?_toArray, List.getElem?_cons_succ, List.getElem?_cons_zero]; rfl) rfl ?hw156 ?hn156; (case hw156 => rfl); (try simp only [Act.put, List.setIfInBounds_toArray, List.set_cons_zero, List.set_cons_succ]))
                            (refine TD.pass (by simp only [List.getElem?_toArray, List.getElem?_cons_succ, List.getElem?_cons_zero]; rfl) rfl ?hw157 ?hn157; (case hw157 => rfl); (try simp only [Act.put, List.setIfInBounds_toArray, List.set_cons_zero, List.set_cons_succ]))
                            (refine TD.val0 (v := ?v158) (by simp only [List.getElem?_toArray, List.getElem?_cons_succ, List.getElem?_cons_zero]; rfl) rfl ?hw158 (fun w1 => ?hy158) ?hn158; (case hw158 => rfl); (case hy158 => (go_simp; (try with_reducible rfl))); (try simp only [Act.put, List.setIfInBounds_toArray, List.set_cons_zero, List.set_cons_succ]))
                            refine TD.nil (fun w9 hr => ?_)
                            have klq := hr.mod.at klq (fun h => h)
                            have m9 := m8.then0 hr.mod
                            go_wp2_with fail
                            go_roundw
                            case rel => exact ⟨j + 1, by omega, by go_num, m9⟩
                            case measure => simp [intOf]; omega
                          · have hnb : (((x.2.val : Nat) : Int) != ((y.2.val : Nat) : Int)) = true := by
                              rw [bne_iff_ne]
                              intro e
                              exact hxy (Fin.ext (by omega))
                            have hcf := HP7.out.get hy hx hjk hxy
                            obtain ⟨⟨xa8, xl8, xc8⟩, xi8⟩ := x
                            obtain ⟨⟨ya8, yl8, yc8⟩, yi8⟩ := y
                            dsimp only at hX1 hX2 hY1 hY2 hnb hxr8 hyr8 hxl8 hyl8 hcf
                            unfold Sl.v at hX1 hY1
                            have HCF := Lib.hid hcf
                            clear hex hey hx hy hxy hcf
                            go_upto_region 39 with fail
                            have Lklq := lt_size klq
                            refine wp_pass (C := fun _ _ v => v = .bool false) (κ := fun i => [0, 0, 0, 0, 1, 0, 0, 0, 0, 1, 0, 0, 0, 0, 0, 0, 1, 0, 0, 0, 0, 1, 2, 0].getD i 0) [0, 1, 2, 3, 4, 5, 6, 7, 8, 9, 10, 11, 12, 13, 14, 15, 16, 17, 18, 19, 20, 21, 22, 23] (by kernel_rfl) (by kernel_rfl) (fun _ _ d _ _ h => by cases d <;> exact h) ?_
                            (refine TD.val0 (v := ?v159) (by simp only [List.getElem?_toArray, List.getElem?_cons_succ, List.getElem?_cons_zero]; rfl) rfl ?hw159 (fun w1 => ?hy159) ?hn159; (case hw159 => rfl); (case hy159 => (go_simp; (try with_reducible rfl))); (try simp only [Act.put, List.setIfInBounds_toArray, List.set_cons_zero, List.set_cons_succ]))
                            (refine TD.val0 (v := ?v160) (by simp only [List.getElem?_toArray, List.getElem?_cons_succ, List.getElem?_cons_zero]; rfl) rfl ?hw160 (fun w1 => ?hy160) ?hn160; (case hw160 => rfl); (case hy160 => (go_simp; (try with_reducible rfl))); (try simp only [Act.put, List.setIfInBounds_toArray, List.set_cons_zero, List.set_cons_succ]))
                            (refine TD.val0 (v := ?v161) (by simp only [List.getElem?_toArray, List.getElem?_cons_succ, List.getElem?_cons_zero]; rfl) rfl ?hw161 (fun w1 => ?hy161) ?hn161; (case hw161 => rfl); (case hy161 => (go_simp; (try with_reducible rfl))); (try simp only [Act.put, List.setIfInBounds_toArray, List.set_cons_zero, List.set_cons_succ]))
                            (refine TD.val0 (v := ?v162) (by simp only [List.getElem?_toArray, List.getElem?_cons_succ, List.getElem?_cons_zero]; rfl) rfl ?hw162 (fun w1 => ?hy162) ?hn162; (case hw162 => rfl); (case hy162 => (go_simp; (try with_reducible rfl))); (try simp only [Act.put, List.setIfInBounds_toArray, List.set_cons_zero, List.set_cons_succ]))
                            (refine TD.load (v := ?v163) (p := ?p163) (Mod.refl _ _) (by simp only [List.getElem?_toArray, List.getElem?_cons_succ, List.getElem?_cons_zero]; rfl) rfl ?hw163 rfl ?hx163 (fun wq hSq => ?hy163) ?hn163; (case hw163 => rfl); (case hx163 => (simp only [Act.eval, Array.getD_eq_getD_getElem?, List.getElem?_toArray, List.getElem?_cons_succ, List.getElem?_cons_zero, Option.getD_some]; (try rfl))); (case hy163 => (have klqq := hSq.at klq (fun h => h); go_simp; (try with_reducible rfl))); (try simp only [Act.put, List.setIfInBounds_toArray, List.set_cons_zero, List.set_cons_succ]))
                            (refine TD.val0 (v := ?v164) (by simp only [List.getElem?_toArray, List.getElem?_cons_succ, List.getElem?_cons_zero]; rfl) rfl ?hw164 (fun w1 => ?hy164) ?hn164; (case hw164 => rfl); (case hy164 => (go_simp; (try with_reducible rfl))); (try simp only [Act.put, List.setIfInBounds_toArray, List.set_cons_zero, List.set_cons_succ]))
                            (refine TD.val0 (v := ?v165) (by simp only [List.getElem?_toArray, List.getElem?_cons_succ, List.getElem?_cons_zero]; rfl) rfl ?hw165 (fun w1 => ?hy165) ?hn165; (case hw165 => rfl); (case hy165 => (go_simp; (try with_reducible rfl))); (try simp only [Act.put, List.setIfInBounds_toArray, List.set_cons_zero, List.set_cons_succ]))
                            (refine TD.val0 (v := ?v166) (by simp only [List.getElem?_toArray, List.getElem?_cons_succ, List.getElem?_cons_zero]; rfl) rfl ?hw166 (fun w1 => ?hy166) ?hn166; (case hw166 => rfl); (case hy166 => (go_simp; (try with_reducible rfl))); (try simp only [Act.put, List.setIfInBounds_toArray, List.set_cons_zero, List.set_cons_succ]))
                            (refine TD.val0 (v := ?v167) (by simp only [List.getElem?_toArray, List.getElem?_cons_succ, List.getElem?_cons_zero]; rfl) rfl ?hw167 (fun w1 => ?hy167) ?hn167; (case hw167 => rfl); (case hy167 => (go_simp; (try with_reducible rfl))); (try simp only [Act.put, List.setIfInBounds_toArray, List.set_cons_zero, List.set_cons_succ]))
                            (refine TD.load (v := ?v168) (p := ?p168) (Mod.refl _ _) (by simp only [List.getElem?_toArray, List.getElem?_cons_succ, List.getElem?_cons_zero]; rfl) rfl ?hw168 rfl ?hx168 (fun wq hSq => ?hy168) ?hn168; (case hw168 => rfl); (case hx168 => (simp only [Act.eval, Array.getD_eq_getD_getElem?, List.getElem?_toArray, List.getElem?_cons_succ, List.getElem?_cons_zero, Option.getD_some]; (try rfl))); (case hy168 => (have klqq := hSq.at klq (fun h => h); go_simp; (try with_reducible rfl))); (try simp only [Act.put, List.setIfInBounds_toArray, List.set_cons_zero, List.set_cons_succ]))
                            (refine TD.val0 (v := ?v169) (by simp only [List.getElem?_toArray, List.getElem?_cons_succ, List.getElem?_cons_zero]; rfl) rfl ?hw169 (fun w1 => ?hy169) ?hn169; (case hw169 => rfl); (case hy169 => (go_simp; (try with_reducible rfl))); (try simp only [Act.put, List.setIfInBounds_toArray, List.set_cons_zero, List.set_cons_succ]))
                            (refine TD.val0 (v := ?v170) (by simp only [List.getElem?_toArray, List.getElem?_cons_succ, List.getElem?_cons_zero]; rfl) rfl ?hw170 (fun w1 => ?hy170) ?hn170; (case hw170 => rfl); (case hy170 => (go_simp; (try with_reducible rfl))); (try simp only [Act.put, List.setIfInBounds_toArray, List.set_cons_zero, List.set_cons_succ]))
                            (refine TD.val0 (v := ?v171) (by simp only [List.getElem?_toArray, List.getElem?_cons_succ, List.getElem?_cons_zero]; rfl) rfl ?hw171 (fun w1 => ?hy171) ?hn171; (case hw171 => rfl); (case hy171 => (go_simp; (try with_reducible rfl))); (try simp only [Act.put, List.setIfInBounds_toArray, List.set_cons_zero, List.set_cons_succ]))
                            (refine TD.val0 (v := ?v172) (by simp only [List.getElem?_toArray, List.getElem?_cons_succ, List.getElem?_cons_zero]; rfl) rfl ?hw172 (fun w1 => ?hy172) ?hn172; (case hw172 => rfl); (case hy172 => (go_simp; (try with_reducible rfl))); (try simp only [Act.put, List.setIfInBounds_toArray, List.set_cons_zero, List.set_cons_succ]))
                            (refine TD.val0 (v := ?v173) (by simp only [List.getElem?_toArray, List.getElem?_cons_succ, List.getElem?_cons_zero]; rfl) rfl ?hw173 (fun w1 => ?hy173) ?hn173; (case hw173 => rfl); (case hy173 => (go_simp; (try with_reducible rfl))); (try simp only [Act.put, List.setIfInBounds_toArray, List.set_cons_zero, List.set_cons_succ]))
                            (refine TD.val0 (v := ?v174) (by simp only [List.getElem?_toArray, List.getElem?_cons_succ, List.getElem?_cons_zero]; rfl) rfl ?hw174 (fun w1 => ?hy174) ?hn174; (case hw174 => rfl); (case hy174 => (go_simp; (try with_reducible rfl))); (try simp only [Act.put, List.setIfInBounds_toArray, List.set_cons_zero, List.set_cons_succ]))
                            (refine TD.load (v := ?v175) (p := ?p175) (Mod.refl _ _) (by simp only [List.getElem?_toArray, List.getElem?_cons_succ, List.getElem?_cons_zero]; rfl) rfl ?hw175 rfl ?hx175 (fun wq hSq => ?hy175) ?hn175; (case hw175 => rfl); (case hx175 => (simp only [Act.eval, Array.getD_eq_getD_getElem?, List.getElem?_toArray, List.getElem?_cons_succ, List.getElem?_cons_zero, Option.getD_some]; (try rfl))); (case hy175 => (have klqq := hSq.at klq (fun h => h); go_simp; (try with_reducible rfl))); (try simp only [Act.put, List.setIfInBounds_toArray, List.set_cons_zero, List.set_cons_succ]))
                            (refine TD.val0 (v := ?v176) (by simp only [List.getElem?_toArray, List.getElem?_cons_succ, List.getElem?_cons_zero]; rfl) rfl ?hw176 (fun w1 => ?hy176) ?hn176; (case hw176 => rfl); (case hy176 => (go_simp; (try with_reducible rfl))); (try simp only [Act.put, List.setIfInBounds_toArray, List.set_cons_zero, List.set_cons_succ]))
                            (refine TD.val0 (v := ?v177) (by simp only [List.getElem?_toArray, List.getElem?_cons_succ, List.getElem?_cons_zero]; rfl) rfl ?hw177 (fun w1 => ?hy177) ?hn177; (case hw177 => rfl); (case hy177 => (go_simp; (try with_reducible rfl))); (try simp only [Act.put, List.setIfInBounds_toArray, List.set_cons_zero, List.set_cons_succ]))
                            (refine TD.val0 (v := ?v178) (by simp only [List.getElem?_toArray, List.getElem?_cons_succ, List.getElem?_cons_zero]; rfl) rfl ?hw178 (fun w1 => ?hy178) ?hn178; (case hw178 => rfl); (case hy178 => (go_simp; (try with_reducible rfl))); (try simp only [Act.put, List.setIfInBounds_toArray, List.set_cons_zero, List.set_cons_succ]))
                            (refine TD.val0 (v := ?v179) (by simp only [List.getElem?_toArray, List.getElem?_cons_succ, List.getElem?_cons_zero]; rfl) rfl ?hw179 (fun w1 => ?hy179) ?hn179; (case hw179 => rfl); (case hy179 => (go_simp; (try with_reducible rfl))); (try simp only [Act.put, List.setIfInBounds_toArray, List.set_cons_zero, List.set_cons_succ]))
                            (refine TD.load (v := ?v180) (p := ?p180) (Mod.refl _ _) (by simp only [List.getElem?_toArray, List.getElem?_cons_succ, List.getElem?_cons_zero]; rfl) rfl ?hw180 rfl ?hx180 (fun wq hSq => ?hy180) ?hn180; (case hw180 => rfl); (case hx180 => (simp only [Act.eval, Array.getD_eq_getD_getElem?, List.getElem?_toArray, List.getElem?_cons_succ, List.getElem?_cons_zero, Option.getD_some]; (try rfl))); (case hy180 => (have klqq := hSq.at klq (fun h => h); go_simp; (try with_reducible rfl))); (try simp only [Act.put, List.setIfInBounds_toArray, List.set_cons_zero, List.set_cons_succ]))
                            (refine TD.call (f := ?f181) (args := ?r181) (Mod.refl _ _) (by simp only [List.getElem?_toArray, List.getElem?_cons_succ, List.getElem?_cons_zero]; rfl) rfl ?hw181 (fun w1 => ?hy181) ?hsp181 ?hn181; (case hw181 => rfl); (case hy181 => (go_simp; (first | with_reducible rfl | (constructor <;> with_reducible rfl)))); (case hsp181 => (intro wq hSq; have klqq := hSq.at klq (fun h => h); exact (conflict_c xa8 ya8 xl8 yl8 _ _ wq (hxr8.mod0 hSq) (hyr8.mod0 hSq) (by omega) (by omega)).mono (fun e w' h => ⟨_, h.1, by rw [HCF.out], h.2⟩))); rintro _ rfl; (try simp only [Act.put, List.setIfInBounds_toArray, List.set_cons_zero, List.set_cons_succ]))
                            (refine TD.val0 (v := ?v182) (by simp only [List.getElem?_toArray, List.getElem?_cons_succ, List.getElem?_cons_zero]; rfl) rfl ?hw182 (fun w1 => ?hy182) ?hn182; (case hw182 => rfl); (case hy182 => (go_simp; (try with_reducible rfl))); (try simp only [Act.put, List.setIfInBounds_toArray, List.set_cons_zero, List.set_cons_succ]))
                            refine TD.nil (fun w9 hr => ?_)
                            have klq := hr.mod.at klq (fun h => h)
                            have m9 := m8.then0 hr.mod
                            go_wp2_with fail
                            go_roundw
                            case rel => exact ⟨j + 1, by omega, by go_num, m9⟩
                            case measure => simp [intOf]; omega
                        · obtain rfl : k = j := by omega
                          go_wp2_with fail
                          go_roundw
                          case rel => exact ⟨k + 1, by omega, by go_num, m8⟩
                          case measure => simp [intOf]; omega
                    · have hs7 := m7.size
                      go_wp2_with fail
                      go_roundw
                      case rel => exact ⟨i + 1, H', by omega, by go_num, HT7.out.mod0 m7, HO7.out.mod0 m7, HP7, by omega, HL7, HS7.out, by omega, mm7.then0 m7⟩
                      case measure => simp [intOf]; omega
                · obtain ⟨h0, Ht, rfl⟩ : ∃ h0 Ht, H' = h0 :: Ht := by
                    cases H' with
                    | nil => simp at hne
                    | cons h0 Ht => exact ⟨h0, Ht, rfl⟩
                  clear hne
                  obtain ⟨g0, o0, C0, U0, fr0, rfl, k0, he0, hle0⟩ := HQ7.out.block (i := 0) (x := h0) rfl
                  rw [Nat.zero_mul, Nat.add_zero] at he0 hle0
                  obtain ⟨hqN, hqr, hql⟩ := HS7.out h0 (List.mem_cons_self ..)
                  have hq400 := hql
                  obtain ⟨⟨qa, ql, qc⟩, qi⟩ := h0
                  simp only [hv, Sl.v] at he0
                  dsimp only at hqN hqr hql
                  obtain ⟨v8, hsl, hO8, hob8⟩ := run_tail haveT HO7.out
                  have hp : (0 : Int) < ((((⟨qa, ql, qc⟩, qi) : Hv) :: Ht).length : Int) := by simp only [List.length_cons]; omega
                  have hLl7 : (locksH (((⟨qa, ql, qc⟩, qi) : Hv) :: Ht)).length ≤ 400 := by
                    have := HL7.out
                    have := allOf_len l (i + 1)
                    omega
                  have HO8 := Lib.hid hO8
                  have HSL := Lib.hid hsl
                  clear hO8 hsl
                  go_upto_region 29 with fail
                  have Lk0 := lt_size k0
                  have Lkl7 := lt_size kl7
                  refine wp_pass0 (C := fun _ _ _ => False) (κ := fun i => [0, 0, 1, 3, 4].getD i 0) [0, 1, 2, 3, 4] (by kernel_rfl) (by kernel_rfl) (fun _ _ d _ _ h => by cases d <;> exact h) ?_
                  (refine TD.val0 (v := ?v183) (by simp only [List.getElem?_toArray, List.getElem?_cons_succ, List.getElem?_cons_zero]; rfl) rfl ?hw183 (fun w1 => ?hy183) ?hn183; (case hw183 => rfl); (case hy183 => (go_simp; (try with_reducible rfl))); (try simp only [Act.put, List.setIfInBounds_toArray, List.set_cons_zero, List.set_cons_succ]))
                  (refine TD.val0 (v := ?v184) (by simp only [List.getElem?_toArray, List.getElem?_cons_succ, List.getElem?_cons_zero]; rfl) rfl ?hw184 (fun w1 => ?hy184) ?hn184; (case hw184 => rfl); (case hy184 => (go_simp; (try with_reducible rfl))); (try simp only [Act.put, List.setIfInBounds_toArray, List.set_cons_zero, List.set_cons_succ]))
                  (refine TD.load (v := ?v185) (p := ?p185) (Mod.refl _ _) (by simp only [List.getElem?_toArray, List.getElem?_cons_succ, List.getElem?_cons_zero]; rfl) rfl ?hw185 rfl ?hx185 (fun wq hSq => ?hy185) ?hn185; (case hw185 => rfl); (case hx185 => (simp only [Act.eval, Array.getD_eq_getD_getElem?, List.getElem?_toArray, List.getElem?_cons_succ, List.getElem?_cons_zero, Option.getD_some]; (try rfl))); (case hy185 => (have k0q := hSq.at k0 (fun h => h); have kl7q := hSq.at kl7 (fun h => h); go_simp; (try with_reducible rfl))); (try simp only [Act.put, List.setIfInBounds_toArray, List.set_cons_zero, List.set_cons_succ]))
                  (refine TD.allocB (by simp only [List.getElem?_toArray, List.getElem?_cons_succ, List.getElem?_cons_zero]; rfl) rfl ?hw186 rfl rfl alAct (fun p16 hp16 => ?hn186); (case hw186 => rfl); (try simp only [Act.put, List.setIfInBounds_toArray, List.set_cons_zero, List.set_cons_succ]))
                  (refine TD.storeB (d := ?d187) (T := ?T187) (y := ?y187) (p := ?p187) (b := ?b187) (v := ?v187) (by simp only [List.getElem?_toArray, List.getElem?_cons_succ, List.getElem?_cons_zero]; rfl) rfl ?hw187 ?hd187 ?hop187 ?hev187 ?hx187 ?hb187 ?htag187 (fun w1 hb1 => ?hy187) ?hn187; (case hw187 => rfl); (case hd187 => rfl); (case hop187 => rfl); (case hev187 => (simp only [Act.eval, Array.getD_eq_getD_getElem?, List.getElem?_toArray, List.getElem?_cons_succ, List.getElem?_cons_zero, Option.getD_some]; (try rfl))); (case hx187 => (simp only [Act.eval, Array.getD_eq_getD_getElem?, List.getElem?_toArray, List.getElem?_cons_succ, List.getElem?_cons_zero, Option.getD_some]; (try rfl))); (case hb187 => first | exact Bx.set_same _ _ _ | (simp only [Bx.set_same]; rfl)); (case hy187 => (go_simp; (try with_reducible rfl))); (try simp only [Act.put, List.setIfInBounds_toArray, List.set_cons_zero, List.set_cons_succ]))
                  refine TD.nil (fun w8 hr => ?_)
                  have k0 := hr.mod.at k0 (fun h => h)
                  have kl7 := hr.mod.at kl7 (fun h => h)
                  have kp16 := hr.box p16 _ (by first | exact Bx.set_same _ _ _ | (simp only [Bx.set_same]; rfl)); dsimp only [Value.cells] at kp16; obtain ⟨gp16, kp16⟩ := kp16
                  have mm8 := mm7.then0 hr.mod
                  have hs8 := hr.mod.size
                  have hrl := release_m t hb wb N _ qa ql qc qi w8 (HT7.out.mod0 hr.mod) (hqr.mod0 mm8) (by omega) (by omega) hqN
                  simp only [relB_head (⟨qa, ql, qc⟩, qi), if_true] at hrl
                  have HK := Lib.hid hrl
                  have HT8 := Lib.hid (HT7.out.mod0 hr.mod)
                  have HO9 := Lib.hid (HO8.out.mod0 hr.mod)
                  clear hrl
                  go_wp2_with fail
                  go_at_call 15
                  refine HK.out.mono ?_
                  clear HK
                  rintro e w9 ⟨rfl, hT9, m9⟩
                  have hs9 := m9.size
                  obtain ⟨Lt9, Lh9, Lw9⟩ := hT9.lt
                  have HT9 : Hid (TabAt w9 t hb wb N (locksH Ht)) := Lib.hid (hT9.perm (subL_head (⟨qa, ql, qc⟩, qi) Ht))
                  have hO9 := HO9.out.mod m9 (fun k hk e => by have := (HO9.out.lt k hk).1; rcases e with rfl | rfl <;> omega)
                  have mm9 := mm8.then m9 (fun j hj e => by rcases e with rfl | rfl <;> omega)
                  have HP9 : Hid (PW Ht) := Lib.hid (List.pairwise_cons.1 HP7.out).2
                  have HL9 : Hid ((locksH Ht).length ≤ (allOf (l.take (i + 1))).length) := Lib.hid (by
                    have := HL7.out
                    rw [locksH_cons, List.length_append] at this
                    omega)
                  have HS9 : Hid (∀ h ∈ Ht, h.2.val < N ∧ RolesAt w h.1.a h.1.l ∧ h.1.l.length ≤ 400) := Lib.hid (fun h hh => HS7.out h (List.mem_cons_of_mem _ hh))
                  simp only [List.length_cons] at hHi7
                  have hsl := HSL.out w9
                  clear HSL HT8 hT9 HO8 k0 kp16
                  go_upto_region 32 with fail
                  refine region_seq 3 rfl ?_
                  simp only [List.range, List.range.loop]
                  (refine sq_val (v := ?v188) (by simp only [List.getElem?_toArray, List.getElem?_cons_succ, List.getElem?_cons_zero]; rfl) ?hw188 ?hy188 ?hn188; (case hw188 => rfl); (case hy188 => (go_simp; (try with_reducible rfl))); (try simp only [Act.put, List.setIfInBounds_toArray, List.set_cons_zero, List.set_cons_succ]))
                  (refine sq_slice1 (by simp only [List.getElem?_toArray, List.getElem?_cons_succ, List.getElem?_cons_zero]; rfl) ?hw189 rfl ?hx189 ?hz189 hsl ?hn189; (case hw189 => rfl); (case hx189 => (simp only [Act.eval, Array.getD_eq_getD_getElem?, List.getElem?_toArray, List.getElem?_cons_succ, List.getElem?_cons_zero, Option.getD_some]; (try rfl))); (case hz189 => (simp only [Act.eval, Array.getD_eq_getD_getElem?, List.getElem?_toArray, List.getElem?_cons_succ, List.getElem?_cons_zero, Option.getD_some]; (try rfl))); (try simp only [Act.put, List.setIfInBounds_toArray, List.set_cons_zero, List.set_cons_succ]))
                  (refine sq_val (v := ?v190) (by simp only [List.getElem?_toArray, List.getElem?_cons_succ, List.getElem?_cons_zero]; rfl) ?hw190 ?hy190 ?hn190; (case hw190 => rfl); (case hy190 => (go_simp; (try with_reducible rfl))); (try simp only [Act.put, List.setIfInBounds_toArray, List.set_cons_zero, List.set_cons_succ]))
                  refine sq_nil ?_
                  clear hsl
                  obtain ⟨aH9, cH9, rfl, hq9, haH9, _⟩ := hO9.at haveT
                  have HO10 := Lib.hid hO9
                  have HQ9 := Lib.hid hq9
                  clear hO9 hq9 haH9 HO9
                  go_wp2_with fail
                  go_loopw [17] (fun s17 wk => ∃ k : Nat, k ≤ Ht.length ∧ s17 = .int .i64 k ∧ Mod (fun _ => False) w9 wk) (fun s17 _ => Ht.length - (intOf s17).toNat)
                  case atStart => exact ⟨0, by omega, rfl, Mod.refl _ _⟩
                  case round =>
                    obtain ⟨k, hk, rfl, m7⟩ := hrel
                    obtain ⟨wk, rfl⟩ : ∃ wk : World, wk = wr := ⟨_, rfl⟩
                    by_cases hkH : k < Ht.length
                    · go_wp2_with fail
                      go_loopw [18] (fun s18 wj => ∃ j : Nat, j ≤ k ∧ s18 = .int .i64 j ∧ Mod (fun _ => False) w9 wj) (fun s18 _ => k - (intOf s18).toNat)
                      case atStart => exact ⟨0, by omega, rfl, m7⟩
                      case round =>
                        clear m7
                        obtain ⟨j, hj, rfl, m8⟩ := hrel
                        by_cases hjk : j < k
                        · obtain ⟨x, hx⟩ : ∃ h, Ht[k]? = some h := ⟨_, List.getElem?_eq_getElem hkH⟩
                          obtain ⟨y, hy⟩ : ∃ h, Ht[j]? = some h := ⟨_, List.getElem?_eq_getElem (by omega)⟩
                          obtain ⟨gq, oq, Cq, Uq, frq, eq1, klq, hex, hlex⟩ := (HQ9.out.mod0 m8).block hx
                          obtain ⟨gq', oq', Cq', Uq', frq', eq2, klq', hey, hley⟩ := (HQ9.out.mod0 m8).block hy
                          rw [eq1] at eq2
                          cases eq2
                          rw [klq] at klq'
                          cases klq'
                          subst eq1
                          have hjH : j < Ht.length := by omega
                          have hX1 : Cq[oq + k * 3 + 1]? = some x.1.v := cellC hex (j := 1) rfl
                          have hX2 : Cq[oq + k * 3 + 2]? = some (.int .i64 (x.2.val : Int)) := cellC hex (j := 2) rfl
                          have hY1 : Cq[oq + j * 3 + 1]? = some y.1.v := cellC hey (j := 1) rfl
                          have hY2 : Cq[oq + j * 3 + 2]? = some (.int .i64 (y.2.val : Int)) := cellC hey (j := 2) rfl
                          obtain ⟨_, hxr8, hxl8⟩ := HS9.out x (List.mem_of_getElem? hx)
                          obtain ⟨_, hyr8, hyl8⟩ := HS9.out y (List.mem_of_getElem? hy)
                          have mm8 := mm9.then0 m8
                          replace hxr8 := RolesAt.mod0 hxr8 mm8
                          replace hyr8 := RolesAt.mod0 hyr8 mm8
                          by_cases hxy : x.2 = y.2
                          · have hnb : (((x.2.val : Nat) : Int) != ((y.2.val : Nat) : Int)) = false := by rw [hxy]; simp
                            obtain ⟨⟨xa8, xl8, xc8⟩, xi8⟩ := x
                            obtain ⟨⟨ya8, yl8, yc8⟩, yi8⟩ := y
                            dsimp only at hX1 hX2 hY1 hY2 hnb hxr8 hyr8 hxl8 hyl8
                            unfold Sl.v at hX1 hY1
                            clear hex hey hx hy hxy
                            go_upto_region 39 with fail
                            have Lklq := lt_size klq
                            refine wp_pass (C := fun _ _ _ => False) (κ := fun i => [0, 0, 0, 0, 1, 0, 0, 0, 0, 1, 0, 0, 0, 0, 0, 0, 1, 0, 0, 0, 0, 1, 0, 0].getD i 0) [0, 1, 2, 3, 4, 5, 6, 7, 8, 9, 10, 11, 12, 13, 14, 15, 16, 17, 18, 19, 20, 21, 22, 23] (by kernel_rfl) (by kernel_rfl) (fun _ _ d _ _ h => by cases d <;> exact h) ?_
                            (refine TD.val0 (v := ?v191) (by simp only [List.getElem?_toArray, List.getElem?_cons_succ, List.getElem?_cons_zero]; rfl) rfl ?hw191 (fun w1 => ?hy191) ?hn191; (case hw191 => rfl); (case hy191 => (go_simp; (try with_reducible rfl))); (try simp only [Act.put, List.setIfInBounds_toArray, List.set_cons_zero, List.set_cons_succ]))
                            (refine TD.val0 (v := ?v192) (by simp only [List.getElem?_toArray, List.getElem?_cons_succ, List.getElem?_cons_zero]; rfl) rfl ?hw192 (fun w1 => ?hy192) ?hn192; (case hw192 => rfl); (case hy192 => (go_simp; (try with_reducible rfl))); (try simp only [Act.put, List.setIfInBounds_toArray, List.set_cons_zero, List.set_cons_succ]))
                            (refine TD.val0 (v := ?v193) (by simp only [List.getElem?_toArray, List.getElem?_cons_succ, List.getElem?_cons_zero]; rfl) rfl ?hw193 (fun w1 => ?hy193) ?hn193; (case hw193 => rfl); (case hy193 => (go_simp; (try with_reducible rfl))); (try simp only [Act.put, List.setIfInBounds_toArray, List.set_cons_zero, List.set_cons_succ]))
                            (refine TD.val0 (v := ?v194) (by simp only [List.getElem?_toArray, List.getElem?_cons_succ, List.getElem?_cons_zero]; rfl) rfl ?hw194 (fun w1 => ?hy194) ?hn194; (case hw194 => rfl); (case hy194 => (go_simp; (try with_reducible rfl))); (try simp only [Act.put, List.setIfInBounds_toArray, List.set_cons_zero, List.set_cons_succ]))
                            (refine TD.load (v := ?v195) (p := ?p195) (Mod.refl _ _) (by simp only [List.getElem?_toArray, List.getElem?_cons_succ, List.getElem?_cons_zero]; rfl) rfl ?hw195 rfl ?hx195 (fun wq hSq => ?hy195) ?hn195; (case hw195 => rfl); (case hx195 => (simp only [Act.eval, Array.getD_eq_getD_getElem?, List.getElem?_toArray, List.getElem?_cons_succ, List.getElem?_cons_zero, Option.getD_some]; (try rfl))); (case hy195 => (have klqq := hSq.at klq (fun h => h); go_simp; (try with_reducible rfl))); (try simp only [Act.put, List.setIfInBounds_toArray, List.set_cons_zero, List.set_cons_succ]))
                            (refine TD.val0 (v := ?v196) (by simp only [List.getElem?_toArray, List.getElem?_cons_succ, List.getElem?_cons_zero]; rfl) rfl ?hw196 (fun w1 => ?hy196) ?hn196; (case hw196 => rfl); (case hy196 => (go_simp; (try with_reducible rfl))); (try simp only [Act.put, List.setIfInBounds_toArray, List.set_cons_zero, List.set_cons_succ]))
                            (refine TD.val0 (v := ?v197) (by simp only [List.getElem?_toArray, List.getElem?_cons_succ, List.getElem?_cons_zero]; rfl) rfl ?hw197 (fun w1 => ?hy197) ?hn197; (case hw197 => rfl); (case hy197 => (go_simp; (try with_reducible rfl))); (try simp only [Act.put, List.setIfInBounds_toArray, List.set_cons_zero, List.set_cons_succ]))
                            (refine TD.val0 (v := ?v198) (by simp only [List.getElem?_toArray, List.getElem?_cons_succ, List.getElem?_cons_zero]; rfl) rfl ?hw198 (fun w1 => ?hy198) ?hn198; (case hw198 => rfl); (case hy198 => (go_simp; (try with_reducible rfl))); (try simp only [Act.put, List.setIfInBounds_toArray, List.set_cons_zero, List.set_cons_succ]))
                            (refine TD.val0 (v := ?v199) (by simp only [List.getElem?_toArray, List.getElem?_cons_succ, List.getElem?_cons_zero]; rfl) rfl ?hw199 (fun w1 => ?hy199) ?hn199; (case hw199 => rfl); (case hy199 => (go_simp; (try with_reducible rfl))); (try simp only [Act.put, List.setIfInBounds_toArray, List.set_cons_zero, List.set_cons_succ]))
                            (refine TD.load (v := ?v200) (p := ?p200) (Mod.refl _ _) (by simp only [List.getElem?_toArray, List.getElem?_cons_succ, List.getElem?_cons_zero]; rfl) rfl ?hw200 rfl ?hx200 (fun wq hSq => ?hy200) ?hn200; (case hw200 => rfl); (case hx200 => (simp only [Act.eval, Array.getD_eq_getD_getElem?, List.getElem?_toArray, List.getElem?_cons_succ, List.getElem?_cons_zero, Option.getD_some]; (try rfl))); (case hy200 => (have klqq := hSq.at klq (fun h => h); go_simp; (try with_reducible rfl))); (try simp only [Act.put, List.setIfInBounds_toArray, List.set_cons_zero, List.set_cons_succ]))
                            (refine TD.val0 (v := ?v201) (by simp only [List.getElem?_toArray, List.getElem?_cons_succ, List.getElem?_cons_zero]; rfl) rfl ?hw201 (fun w1 => ?hy201) ?hn201; (case hw201 => rfl); (case hy201 => (go_simp; (try with_reducible rfl))); (try simp only [Act.put, List.setIfInBounds_toArray, List.set_cons_zero, List.set_cons_succ]))
                            (refine TD.val0 (v := ?v202) (by simp only [List.getElem?_toArray, List.getElem?_cons_succ, List.getElem?_cons_zero]; rfl) rfl ?hw202 (fun w1 => ?hy202) ?hn202; (case hw202 => rfl); (case hy202 => (go_simp; (try with_reducible rfl))); (try simp only [Act.put, List.setIfInBounds_toArray, List.set_cons_zero, List.set_cons_succ]))
                            (refine TD.pass (by simp only [List.getElem?_toArray, List.getElem?_cons_succ, List.getElem?_cons_zero]; rfl) rfl ?hw203 ?hn203; (case hw203 => rfl); (try simp only [Act.put, List.setIfInBounds_toArray, List.set_cons_zero, List.set_cons_succ]))
                            (refine TD.pass (by simp only [List.getElem?_toArray, List.getElem?_cons_succ, List.getElem?_cons_zero]; rfl) rfl ?hw204 ?hn204; (case hw204 => rfl); (try simp only [Act.put, List.setIfInBounds_toArray, List.set_cons_zero, List.set_cons_succ]))
                            (refine TD.pass (by simp only [List.getElem?_toArray, List.getElem?_cons_succ, List.getElem?_cons_zero]; rfl) rfl ?hw205 ?hn205; (case hw205 => rfl); (try simp only [Act.put, List.setIfInBounds_toArray, List.set_cons_zero, List.set_cons_succ]))
                            (refine TD.pass (by simp only [List.getElem?_toArray, List.getElem?_cons_succ, List.getElem?_cons_zero]; rfl) rfl ?hw206 ?hn206; (case hw206 => rfl); (try simp only [Act.put, List.setIfInBounds_toArray, List.set_cons_zero, List.set_cons_succ]))
                            (refine TD.pass1 (by simp only [List.getElem?_toArray, List.getElem?_cons_succ, List.getElem?_cons_zero]; rfl) rfl ?hw207 ?hn207; (case hw207 => rfl); (try simp only [Act.put, List.setIfInBounds_toArray, List.set_cons_zero, List.set_cons_succ]))
                            (refine TD.pass (by simp only [List.getElem?_toArray, List.getElem?_cons_succ, List.getElem?_cons_zero]; rfl) rfl ?hw208 ?hn208; (case hw208 => rfl); (try simp only [Act.put, List.setIfInBounds_toArray, List.set_cons_zero, List.set_cons_succ]))
                            (refine TD.pass (by simp only [List.getElem?_toArray, List.getElem?_cons_succ, List.getElem?_cons_zero]; rfl) rfl ?hw209 ?hn209; (case hw209 => rfl); (try simp only [Act.put, List.setIfInBounds_toArray, List.set_cons_zero, List.set_cons_succ]))
                            (refine TD.pass (by simp only [List.getElem?_toArray, List.getElem?_cons_succ, List.getElem?_cons_zero]; rfl) rfl ?hw210 ?hn210; (case hw210 => rfl); (try simp only [Act.put, List.setIfInBounds_toArray, List.set_cons_zero, List.set_cons_succ]))
                            (refine TD.pass (by simp only [List.getElem?_toArray, List.getElem?_cons_succ, List.getElem?_cons_zero]; rfl) rfl ?hw211 ?hn211; (case hw211 => rfl); (try simp only [Act.put, List.setIfInBounds_toArray, List.set_cons_zero, List.set_cons_succ]))
                            (refine TD.pass1 (by simp only [List.getElem?_toArray, List.getElem?_cons_succ, List.getElem?_cons_zero]; rfl) rfl ?hw212 ?hn212; (case hw212 => rfl); (try simp only [Act.put, List.setIfInBounds_toArray, List.set_cons_zero, List.set_cons_succ]))
                            (refine TD.pass (by simp only [List.getElem?_toArray, List.getElem?_cons_succ, List.getElem?_cons_zero]; rfl) rfl ?hw213 ?hn213; (case hw213 => rfl); (try simp only [Act.put, List.setIfInBounds_toArray, List.set_cons_zero, List.set_cons_succ]))
                            (refine TD.val0 (v := ?v214) (by simp only [List.getElem?_toArray, List.getElem?_cons_succ, List.getElem?_cons_zero]; rfl) rfl ?hw214 (fun w1 => ?hy214) ?hn214; (case hw214 => rfl); (case hy214 => (go_simp; (try with_reducible rfl))); (try simp only [Act.put, List.setIfInBounds_toArray, List.set_cons_zero, List.set_cons_succ]))
                            refine TD.nil (fun w9 hr => ?_)
                            have klq := hr.mod.at klq (fun h => h)
                            have m9 := m8.then0 hr.mod
                            go_wp2_with fail
                            go_roundw
                            case rel => exact ⟨j + 1, by omega, by go_num, m9⟩
                            case measure => simp [intOf]; omega
                          · have hnb : (((x.2.val : Nat) : Int) != ((y.2.val : Nat) : Int)) = true := by
                              rw [bne_iff_ne]
                              intro e
                              exact hxy (Fin.ext (by omega))
                            have hcf := HP9.out.get hy hx hjk hxy
                            obtain ⟨⟨xa8, xl8, xc8⟩, xi8⟩ := x
                            obtain ⟨⟨ya8, yl8, yc8⟩, yi8⟩ := y
                            dsimp only at hX1 hX2 hY1 hY2 hnb hxr8 hyr8 hxl8 hyl8 hcf
                            unfold Sl.v at hX1 hY1
                            have HCF := Lib.hid hcf
                            clear hex hey hx hy hxy hcf
                            go_upto_region 39 with fail
                            have Lklq := lt_size klq
                            refine wp_pass (C := fun _ _ v => v = .bool false) (κ := fun i => [0, 0, 0, 0, 1, 0, 0, 0, 0, 1, 0, 0, 0, 0, 0, 0, 1, 0, 0, 0, 0, 1, 2, 0].getD i 0) [0, 1, 2, 3, 4, 5, 6, 7, 8, 9, 10, 11, 12, 13, 14, 15, 16, 17, 18, 19, 20, 21, 22, 23] (by kernel_rfl) (by kernel_rfl) (fun _ _ d _ _ h => by cases d <;> exact h) ?_
                            (refine TD.val0 (v := ?v215) (by simp only [List.getElem?_toArray, List.getElem?_cons_succ, List.getElem?_cons_zero]; rfl) rfl ?hw215 (fun w1 => ?hy215) ?hn215; (case hw215 => rfl); (case hy215 => (go_simp; (try with_reducible rfl))); (try simp only [Act.put, List.setIfInBounds_toArray, List.set_cons_zero, List.set_cons_succ]))
                            (refine TD.val0 (v := ?v216) (by simp only [List.getElem?_toArray, List.getElem?_cons_succ, List.getElem?_cons_zero]; rfl) rfl ?hw216 (fun w1 => ?hy216) ?hn216; (case hw216 => rfl); (case hy216 => (go_simp; (try with_reducible rfl))); (try simp only [Act.put, List.setIfInBounds_toArray, List.set_cons_zero, List.set_cons_succ]))
                            (refine TD.val0 (v := ?v217) (by simp only [List.getElem?_toArray, List.getElem?_cons_succ, List.getElem?_cons_zero]; rfl) rfl ?hw217 (fun w1 => ?hy217) ?hn217; (case hw217 => rfl); (case hy217 => (go_simp; (try with_reducible rfl))); (try simp only [Act.put, List.setIfInBounds_toArray, List.set_cons_zero, List.set_cons_succ]))
                            (refine TD.val0 (v := ?v218) (by simp only [List.getElem?_toArray, List.getElem?_cons_succ, List.getElem?_cons_zero]; rfl) rfl ?hw218 (fun w1 => ?hy218) ?hn218; (case hw218 => rfl); (case hy218 => (go_simp; (try with_reducible rfl))); (try simp only [Act.put, List.setIfInBounds_toArray, List.set_cons_zero, List.set_cons_succ]))
                            (refine TD.load (v := ?v219) (p := ?p219) (Mod.refl _ _) (by simp only [List.getElem?_toArray, List.getElem?_cons_succ, List.getElem?_cons_zero]; rfl) rfl ?hw219 rfl ?hx219 (fun wq hSq => ?hy219) ?hn219; (case hw219 => rfl); (case hx219 => (simp only [Act.eval, Array.getD_eq_getD_getElem?, List.getElem?_toArray, List.getElem?_cons_succ, List.getElem?_cons_zero, Option.getD_some]; (try rfl))); (case hy219 => (have klqq := hSq.at klq (fun h => h); go_simp; (try with_reducible rfl))); (try simp only [Act.put, List.setIfInBounds_toArray, List.set_cons_zero, List.set_cons_succ]))
                            (refine TD.val0 (v := ?v220) (by simp only [List.getElem?_toArray, List.getElem?_cons_succ, List.getElem?_cons_zero]; rfl) rfl ?hw220 (fun w1 => ?hy220) ?hn220; (case hw220 => rfl); (case hy220 => (go_simp; (try with_reducible rfl))); (try simp only [Act.put, List.setIfInBounds_toArray, List.set_cons_zero, List.set_cons_succ]))
                            (refine TD.val0 (v := ?v221) (by simp only [List.getElem?_toArray, List.getElem?_cons_succ, List.getElem?_cons_zero]; rfl) rfl ?hw221 (fun w1 => ?hy221) ?hn221; (case hw221 => rfl); (case hy221 => (go_simp; (try with_reducible rfl))); (try simp only [Act.put, List.setIfInBounds_toArray, List.set_cons_zero, List.set_cons_succ]))
                            (refine TD.val0 (v := ?v222) (by simp only [List.getElem?_toArray, List.getElem?_cons_succ, List.getElem?_cons_zero]; rfl) rfl ?hw222 (fun w1 => ?hy222) ?hn222; (case hw222 => rfl); (case hy222 => (go_simp; (try with_reducible rfl))); (try simp only [Act.put, List.setIfInBounds_toArray, List.set_cons_zero, List.set_cons_succ]))
                            (refine TD.val0 (v := ?v223) (by simp only [List.getElem?_toArray, List.getElem?_cons_succ, List.getElem?_cons_zero]; rfl) rfl ?hw223 (fun w1 => ?hy223) ?hn223; (case hw223 => rfl); (case hy223 => (go_simp; (try with_reducible rfl))); (try simp only [Act.put, List.setIfInBounds_toArray, List.set_cons_zero, List.set_cons_succ]))
                            (refine TD.load (v := ?v224) (p := ?p224) (Mod.refl _ _) (by simp only [List.getElem?_toArray, List.getElem?_cons_succ, List.getElem?_cons_zero]; rfl) rfl ?hw224 rfl ?hx224 (fun wq hSq => ?hy224) ?hn224; (case hw224 => rfl); (case hx224 => (simp only [Act.eval, Array.getD_eq_getD_getElem?, List.getElem?_toArray, List.getElem?_cons_succ, List.getElem?_cons_zero, Option.getD_some]; (try rfl))); (case hy224 => (have klqq := hSq.at klq (fun h => h); go_simp; (try with_reducible rfl))); (try simp only [Act.put, List.setIfInBounds_toArray, List.set_cons_zero, List.set_cons_succ]))
                            (refine TD.val0 (v := ?v225) (by simp only [List.getElem?_toArray, List.getElem?_cons_succ, List.getElem?_cons_zero]; rfl) rfl ?hw225 (fun w1 => ?hy225) ?hn225; (case hw225 => rfl); (case hy225 => (go_simp; (try with_reducible rfl))); (try simp only [Act.put, List.setIfInBounds_toArray, List.set_cons_zero, List.set_cons_succ]))
                            (refine TD.val0 (v := ?v226) (by simp only [List.getElem?_toArray, List.getElem?_cons_succ, List.getElem?_cons_zero]; rfl) rfl ?hw226 (fun w1 => ?hy226) ?hn226; (case hw226 => rfl); (case hy226 => (go_simp; (try with_reducible rfl))); (try simp only [Act.put, List.setIfInBounds_toArray, List.set_cons_zero, List.set_cons_succ]))
                            (refine TD.val0 (v := ?v227) (by simp only [List.getElem?_toArray, List.getElem?_cons_succ, List.getElem?_cons_zero]; rfl) rfl ?hw227 (fun w1 => ?hy227) ?hn227; (case hw227 => rfl); (case hy227 => (go_simp; (try with_reducible rfl))); (try simp only [Act.put, List.setIfInBounds_toArray, List.set_cons_zero, List.set_cons_succ]))
                            (refine TD.val0 (v := ?v228) (by simp only [List.getElem?_toArray, List.getElem?_cons_succ, List.getElem?_cons_zero]; rfl) rfl ?hw228 (fun w1 => ?hy228) ?hn228; (case hw228 => rfl); (case hy228 => (go_simp; (try with_reducible rfl))); (try simp only [Act.put, List.setIfInBounds_toArray, List.set_cons_zero, List.set_cons_succ]))
                            (refine TD.val0 (v := ?v229) (by simp only [List.getElem?_toArray, List.getElem?_cons_succ, List.getElem?_cons_zero]; rfl) rfl ?hw229 (fun w1 => ?hy229) ?hn229; (case hw229 => rfl); (case hy229 => (go_simp; (try with_reducible rfl))); (try simp only [Act.put, List.setIfInBounds_toArray, List.set_cons_zero, List.set_cons_succ]))
                            (refine TD.val0 (v := ?v230) (by simp only [List.getElem?_toArray, List.getElem?_cons_succ, List.getElem?_cons_zero]; rfl) rfl ?hw230 (fun w1 => ?hy230) ?hn230; (case hw230 => rfl); (case hy230 => (go_simp; (try with_reducible rfl))); (try simp only [Act.put, List.setIfInBounds_toArray, List.set_cons_zero, List.set_cons_succ]))
                            (refine TD.load (v := ?v231) (p := ?p231) (Mod.refl _ _) (by simp only [List.getElem?_toArray, List.getElem?_cons_succ, List.getElem?_cons_zero]; rfl) rfl ?hw231 rfl ?hx231 (fun wq hSq => ?hy231) ?hn231; (case hw231 => rfl); (case hx231 => (simp only [Act.eval, Array.getD_eq_getD_getElem?, List.getElem?_toArray, List.getElem?_cons_succ, List.getElem?_cons_zero, Option.getD_some]; (try rfl))); (case hy231 => (have klqq := hSq.at klq (fun h => h); go_simp; (try with_reducible rfl))); (try simp only [Act.put, List.setIfInBounds_toArray, List.set_cons_zero, List.set_cons_succ]))
                            (refine TD.val0 (v := ?v232) (by simp only [List.getElem?_toArray, List.getElem?_cons_succ, List.getElem?_cons_zero]; rfl) rfl ?hw232 (fun w1 => ?hy232) ?hn232; (case hw232 => rfl); (case hy232 => (go_simp; (try with_reducible rfl))); (try simp only [Act.put, List.setIfInBounds_toArray, List.set_cons_zero, List.set_cons_succ]))
                            (refine TD.val0 (v := ?v233) (by simp only [List.getElem?_toArray, List.getElem?_cons_succ, List.getElem?_cons_zero]; rfl) rfl ?hw233 (fun w1 => ?hy233) ?hn233; (case hw233 => rfl); (case hy233 => (go_simp; (try with_reducible rfl))); (try simp only [Act.put, List.setIfInBounds_toArray, List.set_cons_zero, List.set_cons_succ]))
                            (refine TD.val0 (v := ?v234) (by simp only [List.getElem?_toArray, List.getElem?_cons_succ, List.getElem?_cons_zero]; rfl) rfl ?hw234 (fun w1 => ?hy234) ?hn234; (case hw234 => rfl); (case hy234 => (go_simp; (try with_reducible rfl))); (try simp only [Act.put, List.setIfInBounds_toArray, List.set_cons_zero, List.set_cons_succ]))
                            (refine TD.val0 (v := ?v235) (by simp only [List.getElem?_toArray, List.getElem?_cons_succ, List.getElem?_cons_zero]; rfl) rfl ?hw235 (fun w1 => ?hy235) ?hn235; (case hw235 => rfl); (case hy235 => (go_simp; (try with_reducible rfl))); (try simp only [Act.put, List.setIfInBounds_toArray, List.set_cons_zero, List.set_cons_succ]))
                            (refine TD.load (v := ?v236) (p := ?p236) (Mod.refl _ _) (by simp only [List.getElem?_toArray, List.getElem?_cons_succ, List.getElem?_cons_zero]; rfl) rfl ?hw236 rfl ?hx236 (fun wq hSq => ?hy236) ?hn236; (case hw236 => rfl); (case hx236 => (simp only [Act.eval, Array.getD_eq_getD_getElem?, List.getElem?_toArray, List.getElem?_cons_succ, List.getElem?_cons_zero, Option.getD_some]; (try rfl))); (case hy236 => (have klqq := hSq.at klq (fun h => h); go_simp; (try with_reducible rfl))); (try simp only [Act.put, List.setIfInBounds_toArray, List.set_cons_zero, List.set_cons_succ]))
                            (refine TD.call (f := ?f237) (args := ?r237) (Mod.refl _ _) (by simp only [List.getElem?_toArray, List.getElem?_cons_succ, List.getElem?_cons_zero]; rfl) rfl ?hw237 (fun w1 => ?hy237) ?hsp237 ?hn237; (case hw237 => rfl); (case hy237 => (go_simp; (first | with_reducible rfl | (constructor <;> with_reducible rfl)))); (case hsp237 => (intro wq hSq; have klqq := hSq.at klq (fun h => h); exact (conflict_c xa8 ya8 xl8 yl8 _ _ wq (hxr8.mod0 hSq) (hyr8.mod0 hSq) (by omega) (by omega)).mono (fun e w' h => ⟨_, h.1, by rw [HCF.out], h.2⟩))); rintro _ rfl; (try simp only [Act.put, List.setIfInBounds_toArray, List.set_cons_zero, List.set_cons_succ]))
                            (refine TD.val0 (v := ?v238) (by simp only [List.getElem?_toArray, List.getElem?_cons_succ, List.getElem?_cons_zero]; rfl) rfl ?hw238 (fun w1 => ?hy238) ?hn238; (case hw238 => rfl); (case hy238 => (go_simp; (try with_reducible rfl))); (try simp only [Act.put, List.setIfInBounds_toArray, List.set_cons_zero, List.set_cons_succ]))
                            refine TD.nil (fun w9 hr => ?_)
                            have klq := hr.mod.at klq (fun h => h)
                            have m9 := m8.then0 hr.mod
                            go_wp2_with fail
                            go_roundw
                            case rel => exact ⟨j + 1, by omega, by go_num, m9⟩
                            case measure => simp [intOf]; omega
                        · obtain rfl : k = j := by omega
                          go_wp2_with fail
                          go_roundw
                          case rel => exact ⟨k + 1, by omega, by go_num, m8⟩
                          case measure => simp [intOf]; omega
                    · have hs7 := m7.size
                      go_wp2_with fail
                      go_roundw
                      case rel => exact ⟨i + 1, Ht, by omega, by go_num, HT9.out.mod0 m7, HO10.out.mod0 m7, HP9, by omega, HL9, HS9.out, by omega, mm9.then0 m7⟩
                      case measure => simp [intOf]; omega
      · go_wp2_with (go_at_call 10; refine (lives_c _).mono ?_; rintro e w' ⟨rfl, hm2⟩)
        go_ret
        exact ⟨rfl, hm.trans hm2⟩
end Go.Proofs.Ytleenmldlbccmaa
