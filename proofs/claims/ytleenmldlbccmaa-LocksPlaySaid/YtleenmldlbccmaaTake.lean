/- The walk of (*locks.Table).Take. -/
import Derived.Test.YtleenmldlbccmaaTab
namespace Go.Proofs.Ytleenmldlbccmaa
open Go.RowKit
open Go.ChangeMaps (setBlock)
set_option linter.unusedSimpArgs false
set_option linter.unusedVariables false
/-- A table of n workers that have the locks L. -/
def TabAt (w : World) (t hb wb n : Nat) (L : List Lk) : Prop :=
  hb ≠ wb ∧ w.heap[t]? = some (.cells #[.int .i64 n, .map (some hb), .map (some wb)] 49 (0, 0)) ∧
    ∃ eh ch ew cw mh mw, w.heap[hb]? = some (.map eh ch) ∧ MapIs pv cv eh ch mh ∧ w.heap[wb]? = some (.map ew cw) ∧ MapIs kv uv ew cw mw ∧ TabInv mh mw L
theorem TabAt.mod0 {w w' : World} {t hb wb n : Nat} {L : List Lk} (h : TabAt w t hb wb n L) (hm : Mod (fun _ => False) w w') : TabAt w' t hb wb n L := by
  obtain ⟨h1, kt, eh, ch, ew, cw, mh, mw, kh, Mh, kw, Mw, I⟩ := h
  exact ⟨h1, hm.at0 kt, eh, ch, ew, cw, mh, mw, hm.at0 kh, Mh, hm.at0 kw, Mw, I⟩
theorem TabAt.perm {w : World} {t hb wb n : Nat} {L L' : List Lk} (h : TabAt w t hb wb n L) (hp : ∀ x, L'.count x = L.count x) : TabAt w t hb wb n L' := by
  obtain ⟨h1, kt, eh, ch, ew, cw, mh, mw, kh, Mh, kw, Mw, I⟩ := h
  exact ⟨h1, kt, eh, ch, ew, cw, mh, mw, kh, Mh, kw, Mw, I.perm hp⟩
/-- A list of roles is no map: what a table changes leaves it. -/
theorem RolesAt.modT {w w' : World} {t hb wb n : Nat} {L : List Lk} {a : Option Addr} {l : List Role} (h : RolesAt w a l) (ht : TabAt w t hb wb n L) (hm : Mod (fun i => i = hb ∨ i = wb) w w') : RolesAt w' a l := by
  rcases h with h | ⟨b, o, C, U, fr, ha, hb', hc⟩
  · exact .inl h
  · obtain ⟨_, _, eh, ch, ew, cw, mh, mw, kh, _, kw, _, _⟩ := ht
    exact .inr ⟨b, o, C, U, fr, ha, hm.at hb' (by
      rintro (rfl | rfl)
      · rw [kh] at hb'; cases hb'
      · rw [kw] at hb'; cases hb'), hc⟩
theorem turn_c (t hb wb n : Nat) (L L' : List Lk) (k : Key) (s b : Bool) (i : Fin 64) (d : Int) (w : World) (h : TabAt w t hb wb n L) (hL : L.length ≤ 1000000) (hd : d = 1 ∨ d = -1)
    (hc : ∀ x : Lk, (L'.count x : Int) = (L.count x : Int) + if x = (k, b, i) then d else 0) :
    Calls Try.prog 29 #[.pointer (some ⟨t, 0, none⟩), .agg (rc k s b), .int .i64 (i.val : Int), .int .i64 d] w fun e w' => e = .returned (.tuple #[]) ∧ TabAt w' t hb wb n L' ∧ Mod (fun i => i = hb ∨ i = wb) w w' := by
  obtain ⟨h1, kt, eh, ch, ew, cw, mh, mw, kh, Mh, kw, Mw, I⟩ := h
  have hth := ne_of_obj kt kh (by simp)
  have htw := ne_of_obj kt kw (by simp)
  have hI := I.turn Mh.nodup Mw.nodup k i b d hc
  have post : ∀ (e : Ending) (w' : World), (e = .returned (.tuple #[]) ∧ TurnPost w hb wb (turnH mh k i b d) (turnW mh mw k i b d) w') → e = .returned (.tuple #[]) ∧ TabAt w' t hb wb n L' ∧ Mod (fun i => i = hb ∨ i = wb) w w' := by
    rintro e w' ⟨rfl, eh', ch', ew', cw', kh', Mh', kw', Mw', m⟩
    exact ⟨rfl, ⟨h1, m.at kt (by rintro (rfl | rfl) <;> simp_all), eh', ch', ew', cw', _, _, kh', Mh', kw', Mw', hI⟩, m⟩
  cases b
  · exact (turn_f t hb wb n k s i d w eh ew ch cw mh mw kt kh Mh kw Mw h1 (I.bound hL) (by omega) (by omega)).mono post
  · exact (turn_t t hb wb n k s i d w eh ew ch cw mh mw kt kh Mh kw Mw h1 (I.bound hL) (by omega) (by omega)).mono post
/-- Threads, of a table that is there. -/
theorem threads_T (t hb wb n : Nat) (L : List Lk) (a : Option Addr) (l : List Role) (c : Nat) (w : World) (h : TabAt w t hb wb n L) (hn : 1 ≤ n) (hn2 : n ≤ 64) (hl : RolesAt w a l) (hlen : l.length ≤ 1000000) :
    ∃ x : Nat, x < 18446744073709551616 ∧ (∀ j, x.testBit j = true ↔ j < n ∧ ∀ r ∈ l, freeFor L r j) ∧
      Calls Try.prog 13 #[.pointer (some ⟨t, 0, none⟩), .slice a l.length c] w fun e w' => e = .returned (.int .u64 (x : Int)) ∧ Mod (fun _ => False) w w' := by
  obtain ⟨h1, kt, eh, ch, ew, cw, mh, mw, kh, Mh, kw, Mw, I⟩ := h
  exact ⟨thrN mw n l, thrN_lt mw n l, thrN_testBit I n hn2 l, threads_c t hb wb n a l c w ew cw mw kt hn hn2 kw Mw I.lt hl hlen⟩
attribute [local go_sem ↓] wlKey wlRole wlSpot wlCounts wlBits ldKey ldRole ldSpot ldCounts ldBits stKey stRole stSpot stCounts stBits eqCounts eqBits
attribute [local go_sem] zRole_size eqHeld cell_blk frozen_blk kc_ext rc_size rc_key rc_all rc_s rc_w rc_s' rc_w' rc_one sc_size sc_key sc_all sc_n sc_n' sc_one one_int one_bool one_ptr one_slice one_map zSpot_size kc_one kc_one0 Value.cells
theorem bit_and1 (x i : Nat) (hx : x < 18446744073709551616) : bits .and .u64 ((x : Int) / 2 ^ i) 1 = if x.testBit i then 1 else 0 := by
  have h1 := u64_and_nat (x / 2 ^ i) 1 (Nat.lt_of_le_of_lt (Nat.div_le_self _ _) hx) (by omega)
  have e : ((x / 2 ^ i : Nat) : Int) = (x : Int) / 2 ^ i := by simp
  rw [e] at h1
  have h2 : ((1 : Nat) : Int) = 1 := rfl
  rw [h2] at h1
  rw [h1, Nat.and_one_is_mod, Nat.testBit_eq_decide_div_mod_eq]
  have := Nat.mod_lt (x / 2 ^ i) (show 0 < 2 by omega)
  by_cases h : x / 2 ^ i % 2 = 1
  · simp [h]
  · have : x / 2 ^ i % 2 = 0 := by omega
    simp [this]
def addL (L : List Lk) (l : List Role) (i : Fin 64) : List Lk := l.foldl (fun L r => (r.k, r.w, i) :: L) L
theorem addL_snoc (L : List Lk) (l : List Role) (r : Role) (i : Fin 64) : addL L (l ++ [r]) i = (r.k, r.w, i) :: addL L l i := by simp [addL, List.foldl_append]
theorem addL_len (i : Fin 64) : ∀ (l : List Role) (L : List Lk), (addL L l i).length = L.length + l.length
  | [], L => rfl
  | r :: l, L => by
    unfold addL
    rw [List.foldl_cons]
    have := addL_len i l ((r.k, r.w, i) :: L)
    unfold addL at this
    rw [this]
    simp
    omega
set_option maxHeartbeats 1600000 in
theorem take_c (t hb wb n : Nat) (L : List Lk) (a : Option Addr) (l : List Role) (c : Nat) (i : Fin 64) (w : World) (h : TabAt w t hb wb n L) (hn : 1 ≤ n) (hn2 : n ≤ 64) (hl : RolesAt w a l) (hlen : L.length + l.length ≤ 1000000) (hi : i.val < n)
    (hfree : ∀ r ∈ l, freeFor L r i.val) :
    Calls Try.prog 17 #[.pointer (some ⟨t, 0, none⟩), .slice a l.length c, .int .i64 (i.val : Int)] w fun e w' => e = .returned (.int .i64 0) ∧ TabAt w' t hb wb n (addL L l i) ∧ Mod (fun i => i = hb ∨ i = wb) w w' := by
  obtain ⟨x, hx, hbit, hcall⟩ := threads_T t hb wb n L a l c w h hn hn2 hl (by omega)
  have hb1 : x.testBit i.val = true := (hbit i.val).2 ⟨hi, hfree⟩
  have hq := bit_and1 x i.val hx
  rw [hb1, if_pos rfl] at hq
  obtain ⟨_, kt, _⟩ := id h
  have hmay := may_ok t hb wb n i.val w kt (by omega) (by omega)
  have HT := Lib.hid hcall
  have HM := Lib.hid hmay
  clear hcall hmay hbit hb1 kt hfree
  have H := Lib.hid h
  clear h
  go_enter Try.func17, Try.ntmps17
  go_wp2_with (first | (go_at_call 27; refine HM.out.mono ?_; rintro e w' ⟨rfl, rfl⟩) | (go_at_call 13; refine HT.out.mono ?_; rintro e w1 ⟨rfl, hm1⟩))
  clear hq
  have hl1 := hl.mod0 hm1
  have hm2 : Mod (fun i => i = hb ∨ i = wb) w w1 := hm1.mono (fun _ _ h => h.elim)
  go_loopw [25] (fun s25 wr => ∃ k : Nat, k ≤ l.length ∧ s25 = .int .i64 k ∧ TabAt wr t hb wb n (addL L (l.take k) i) ∧ Mod (fun i => i = hb ∨ i = wb) w wr) (fun s25 _ => l.length - (intOf s25).toNat)
  case atStart => exact ⟨0, by omega, rfl, H.out.mod0 hm1, hm2⟩
  case round =>
    obtain ⟨j, hj, rfl, hT, hm⟩ := hrel
    have hl2 := hl.modT H.out hm
    by_cases hlt : j < l.length
    · obtain ⟨r, hr⟩ : ∃ r, l[j]? = some r := ⟨_, List.getElem?_eq_getElem hlt⟩
      obtain ⟨b, o, C, U, fr, rfl, kl, hc⟩ : ∃ b o C U fr, a = some ⟨b, o, none⟩ ∧ wr.heap[b]? = some (.cells C U fr) ∧
          ∀ i r, l[i]? = some r → C.extract (o + i * 34) (o + i * 34 + 34) = rc r.k r.s r.w ∧ o + i * 34 + 34 ≤ C.size := by
        rcases hl2 with rfl | h
        · simp at hr
        · exact h
      obtain ⟨hx, hle⟩ := hc j r hr
      have htake : l.take (j + 1) = l.take j ++ [r] := by
        rw [List.take_add_one, hr]
        rfl
      have hadd : addL L (l.take (j + 1)) i = (r.k, r.w, i) :: addL L (l.take j) i := by rw [htake, addL_snoc]
      have hlenj : (addL L (l.take j) i).length ≤ 1000000 := by rw [addL_len, List.length_take]; omega
      have hcnt : ∀ x : Lk, ((addL L (l.take (j + 1)) i).count x : Int) = ((addL L (l.take j) i).count x : Int) + if x = (r.k, r.w, i) then 1 else 0 := fun x => by
        rw [hadd, List.count_cons]
        by_cases hx : x = (r.k, r.w, i)
        · subst hx; simp
        · simp [hx, Ne.symm hx]
      obtain ⟨k, s, b⟩ := r
      dsimp only at hx hcnt
      have HC := Lib.hid hcnt
      have HT2 := Lib.hid hT
      clear hc hr htake hadd hcnt hl2 hT hl1 hl hm1 hm2
      have mm := hm
      go_upto_region 8 with fail
      have Lkl := lt_size kl
      refine wp_pass0 (C := fun _ _ _ => False) (κ := fun i => [0, 1, 3, 4].getD i 0) [0, 1, 2, 3] (by kernel_rfl) (by kernel_rfl) (fun _ _ d _ _ h => by cases d <;> exact h) ?_
      (refine TD.val0 (v := ?v1) (by simp only [List.getElem?_toArray, List.getElem?_cons_succ, List.getElem?_cons_zero]; rfl) rfl ?hw1 (fun w1 => ?hy1) ?hn1; (case hw1 => rfl); (case hy1 => (go_simp; (try with_reducible rfl))); (try simp only [Act.put, List.setIfInBounds_toArray, List.set_cons_zero, List.set_cons_succ]))
      (refine TD.load (v := ?v2) (p := ?p2) (Mod.refl _ _) (by simp only [List.getElem?_toArray, List.getElem?_cons_succ, List.getElem?_cons_zero]; rfl) rfl ?hw2 rfl ?hx2 (fun wq hSq => ?hy2) ?hn2; (case hw2 => rfl); (case hx2 => (simp only [Act.eval, Array.getD_eq_getD_getElem?, List.getElem?_toArray, List.getElem?_cons_succ, List.getElem?_cons_zero, Option.getD_some]; (try rfl))); (case hy2 => (have klq := hSq.at kl (fun h => h); go_simp; (try with_reducible rfl))); (try simp only [Act.put, List.setIfInBounds_toArray, List.set_cons_zero, List.set_cons_succ]))
      (refine TD.allocB (by simp only [List.getElem?_toArray, List.getElem?_cons_succ, List.getElem?_cons_zero]; rfl) rfl ?hw3 rfl rfl alRole (fun p9 hp9 => ?hn3); (case hw3 => rfl); (try simp only [Act.put, List.setIfInBounds_toArray, List.set_cons_zero, List.set_cons_succ]))
      (refine TD.storeB (d := ?d4) (T := ?T4) (y := ?y4) (p := ?p4) (b := ?b4) (v := ?v4) (by simp only [List.getElem?_toArray, List.getElem?_cons_succ, List.getElem?_cons_zero]; rfl) rfl ?hw4 ?hd4 ?hop4 ?hev4 ?hx4 ?hb4 ?htag4 (fun w1 hb1 => ?hy4) ?hn4; (case hw4 => rfl); (case hd4 => rfl); (case hop4 => rfl); (case hev4 => (simp only [Act.eval, Array.getD_eq_getD_getElem?, List.getElem?_toArray, List.getElem?_cons_succ, List.getElem?_cons_zero, Option.getD_some]; (try rfl))); (case hx4 => (simp only [Act.eval, Array.getD_eq_getD_getElem?, List.getElem?_toArray, List.getElem?_cons_succ, List.getElem?_cons_zero, Option.getD_some]; (try rfl))); (case hb4 => first | exact Bx.set_same _ _ _ | (simp only [Bx.set_same]; rfl)); (case hy4 => (go_simp; (try with_reducible rfl))); (try simp only [Act.put, List.setIfInBounds_toArray, List.set_cons_zero, List.set_cons_succ]))
      refine TD.nil (fun w2 hr => ?_)
      have kl := hr.mod.at kl (fun h => h)
      have kp9 := hr.box p9 _ (by first | exact Bx.set_same _ _ _ | (simp only [Bx.set_same]; rfl)); dsimp only [Value.cells] at kp9; obtain ⟨gp9, kp9⟩ := kp9
      have mm := mm.then0 hr.mod
      have hT3 := HT2.out.mod0 hr.mod
      have HT3 := Lib.hid hT3
      clear hT3
      go_wp2_with (go_at_call 29; refine (turn_c t hb wb n _ (addL L (l.take (j + 1)) i) k s b i 1 _ HT3.out hlenj (.inl rfl) HC.out).mono ?_; rintro e w' ⟨rfl, hT4, hm4⟩)
      go_roundw
      case rel => exact ⟨j + 1, by omega, by go_num, hT4, mm.trans hm4⟩
      case measure => simp [intOf]; omega
    · obtain rfl : j = l.length := by omega
      rw [List.take_length] at hT
      go_wp2
      go_ret
      exact ⟨rfl, hT, hm⟩
theorem take_state (t hb wb n : Nat) (L : List Lk) (a : Option Addr) (l : List Role) (c : Nat) (i : Nat) (w : World) (h : TabAt w t hb wb n L) (hn : 1 ≤ n) (hn2 : n ≤ 64) (hl : RolesAt w a l) (hlen : l.length ≤ 1000000) (hi : i < n)
    (hfree : ¬ ∀ r ∈ l, freeFor L r i) :
    Calls Try.prog 17 #[.pointer (some ⟨t, 0, none⟩), .slice a l.length c, .int .i64 (i : Int)] w fun e w' => e = .returned (.int .i64 23) ∧ Mod (fun _ => False) w w' := by
  obtain ⟨x, hx, hbit, hcall⟩ := threads_T t hb wb n L a l c w h hn hn2 hl (by omega)
  have hb1 : ¬ x.testBit i = true := fun hh => hfree ((hbit i).1 hh).2
  have hq := bit_and1 x i hx
  rw [if_neg hb1] at hq
  obtain ⟨_, kt, _⟩ := id h
  have hmay := may_ok t hb wb n i w kt (by omega) (by omega)
  have HT := Lib.hid hcall
  have HM := Lib.hid hmay
  clear hcall hmay hbit hb1 kt hfree h hl
  go_enter Try.func17, Try.ntmps17
  go_wp2_with (first | (go_at_call 27; refine HM.out.mono ?_; rintro e w' ⟨rfl, rfl⟩) | (go_at_call 13; refine HT.out.mono ?_; rintro e w1 ⟨rfl, hm1⟩))
  go_ret
  exact ⟨rfl, hm1⟩
theorem take_neg (t hb wb : Nat) (n : Int) (a : Option Addr) (l c : Nat) (i : Int) (w : World) (kt : w.heap[t]? = some (.cells #[.int .i64 n, .map (some hb), .map (some wb)] 49 (0, 0))) (hi : i < 0) :
    Calls Try.prog 17 #[.pointer (some ⟨t, 0, none⟩), .slice a l c, .int .i64 i] w fun e w' => e = .returned (.int .i64 1) ∧ w = w' := by
  have hmay := may_neg t hb wb n i w kt hi
  have HM := Lib.hid hmay
  clear hmay
  go_enter Try.func17, Try.ntmps17
  go_wp2_with (go_at_call 27; refine HM.out.mono ?_; rintro e w' ⟨rfl, rfl⟩)
  go_ret
  exact ⟨rfl, rfl⟩
theorem take_big (t hb wb : Nat) (n : Int) (a : Option Addr) (l c : Nat) (i : Int) (w : World) (kt : w.heap[t]? = some (.cells #[.int .i64 n, .map (some hb), .map (some wb)] 49 (0, 0))) (h0 : 0 ≤ i) (hi : n ≤ i) :
    Calls Try.prog 17 #[.pointer (some ⟨t, 0, none⟩), .slice a l c, .int .i64 i] w fun e w' => e = .returned (.int .i64 1) ∧ w = w' := by
  have hmay := may_big t hb wb n i w kt h0 hi
  have HM := Lib.hid hmay
  clear hmay
  go_enter Try.func17, Try.ntmps17
  go_wp2_with (go_at_call 27; refine HM.out.mono ?_; rintro e w' ⟨rfl, rfl⟩)
  go_ret
  exact ⟨rfl, rfl⟩
theorem take_nil  (a : Option Addr) (l c : Nat) (i : Int) (w : World)  :
    Calls Try.prog 17 #[.pointer none, .slice a l c, .int .i64 i] w fun e w' => e = .returned (.int .i64 2) ∧ w = w' := by
  have hmay := may_nil i w
  have HM := Lib.hid hmay
  clear hmay
  go_enter Try.func17, Try.ntmps17
  go_wp2_with (go_at_call 27; refine HM.out.mono ?_; rintro e w' ⟨rfl, rfl⟩)
  go_ret
  exact ⟨rfl, rfl⟩
theorem take_void (t : Nat) (a : Option Addr) (l c : Nat) (i : Int) (w : World) (kt : w.heap[t]? = some (.cells #[.int .i64 0, .map none, .map none] 49 (0, 0))) :
    Calls Try.prog 17 #[.pointer (some ⟨t, 0, none⟩), .slice a l c, .int .i64 i] w fun e w' => e = .returned (.int .i64 2) ∧ w = w' := by
  have hmay := may_void t i w kt
  have HM := Lib.hid hmay
  clear hmay
  go_enter Try.func17, Try.ntmps17
  go_wp2_with (go_at_call 27; refine HM.out.mono ?_; rintro e w' ⟨rfl, rfl⟩)
  go_ret
  exact ⟨rfl, rfl⟩
end Go.Proofs.Ytleenmldlbccmaa
