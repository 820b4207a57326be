/- The walk of RanksOrder. -/
import Derived.Test.YtnibhnnpjkemhaaRen
import Derived.Test.YtnibhnnpjkemhaaRl1
namespace Go.Proofs.Ytnibhnnpjkemhaa
open Go.RowKit Go.Sort
open Go.ChangeMaps (setBlock)
set_option linter.unusedSimpArgs false
set_option linter.unusedVariables false
attribute [local go_sem ↓] wlRk ldRk stRk wlNdR ldNdR stNdR eqRk eqRk2
attribute [local go_sem] rkc_size ndc_size rn_size cell_blk frozen_blk one_int one_bool one_ptr one_slice one_map Value.cells rkc_all1 rn_r rn_i rn_all rkc_ext zRk_size zNdR_size
theorem nodup_of_map {α β : Type} {f : α → β} {l : List α} (h : (l.map f).Nodup) : l.Nodup := by
  rw [List.nodup_iff_pairwise_ne, List.pairwise_map] at h
  exact List.nodup_iff_pairwise_ne.2 (h.imp (fun h e => h (by rw [e])))
/-- Which one comes at step i. -/
def kf (n at_ i : Nat) : Nat := (n - 1 - i + at_) % n
theorem kf_lt {n at_ i : Nat} (hn : 0 < n) : kf n at_ i < n := Nat.mod_lt _ hn
theorem kf_inj {n at_ i j : Nat} (hi : i < n) (hj : j < n) (h : kf n at_ i = kf n at_ j) : i = j := by
  unfold kf at h
  have h1 := Nat.div_add_mod (n - 1 - i + at_) n
  have h2 := Nat.div_add_mod (n - 1 - j + at_) n
  rw [h] at h1
  generalize (n - 1 - i + at_) / n = a at *
  generalize (n - 1 - j + at_) / n = b at *
  generalize (n - 1 - j + at_) % n = r at *
  rcases Nat.lt_trichotomy a b with hab | hab | hab
  · have : n * (a + 1) ≤ n * b := Nat.mul_le_mul_left _ hab
    rw [Nat.mul_add, Nat.mul_one] at this
    omega
  · subst hab
    omega
  · have : n * (b + 1) ≤ n * a := Nat.mul_le_mul_left _ hab
    rw [Nat.mul_add, Nat.mul_one] at this
    omega
theorem kf_onto {n at_ a : Nat} (ha : a < n) : ∃ j, j < n ∧ kf n at_ j = a := by
  refine ⟨(n - 1 + at_ - a) % n, Nat.mod_lt _ (by omega), ?_⟩
  unfold kf
  have h1 := Nat.div_add_mod (n - 1 + at_ - a) n
  have h2 := Nat.mod_lt (n - 1 + at_ - a) (show n > 0 by omega)
  generalize (n - 1 + at_ - a) / n = q at *
  generalize (n - 1 + at_ - a) % n = r at *
  rw [show n - 1 - r + at_ = n * q + a by omega, Nat.mul_add_mod, Nat.mod_eq_of_lt ha]
/-- The nodes of the first i steps. -/
def stp (l : List Rk) (at_ i : Nat) : List Nd := (List.range i).filterMap (fun j => (nds l)[kf l.length at_ j]?)
theorem stp_succ {l : List Rk} {at_ i : Nat} {r : Rk} (h : l[kf l.length at_ i]? = some r) : stp l at_ (i + 1) = stp l at_ i ++ [⟨r, idn (kf l.length at_ i)⟩] := by
  unfold stp
  rw [List.range_succ, List.filterMap_append]
  simp [nds_get, h]
theorem stp_mem {l : List Rk} {at_ i : Nat} {x : Nd} (h : x ∈ stp l at_ i) : ∃ j, j < i ∧ (nds l)[kf l.length at_ j]? = some x := by
  obtain ⟨j, hj, hx⟩ := List.mem_filterMap.1 h
  exact ⟨j, List.mem_range.1 hj, hx⟩
theorem stp_len (l : List Rk) (at_ i : Nat) : (stp l at_ i).length ≤ i := by
  have := List.length_filterMap_le (fun j => (nds l)[kf l.length at_ j]?) (List.range i)
  rw [List.length_range] at this
  exact this
theorem stp_new {l : List Rk} {at_ i : Nat} (hi : i < l.length) (hl : l.length ≤ 1000) : ∀ x ∈ stp l at_ i, x.id ≠ idn (kf l.length at_ i) := fun x hx e => by
  obtain ⟨j, hj, hg⟩ := stp_mem hx
  rw [nds_get] at hg
  cases hr : l[kf l.length at_ j]? with
  | none => rw [hr] at hg; cases hg
  | some r =>
    rw [hr] at hg
    cases hg
    have k1 := kf_lt (at_ := at_) (i := i) (show 0 < l.length by omega)
    have k2 := kf_lt (at_ := at_) (i := j) (show 0 < l.length by omega)
    have := kf_inj (by omega) hi (idn_inj (by omega) (by omega) e)
    omega
theorem stp_perm {l : List Rk} {at_ : Nat} (hl : l.length ≤ 1000) (hn1 : ((stp l at_ l.length).map Nd.id).Nodup) (hn2 : ((nds l).map Nd.id).Nodup) : (stp l at_ l.length).Perm (nds l) := by
  refine (List.perm_ext_iff_of_nodup ?_ ?_).2 (fun x => ⟨fun hx => ?_, fun hx => ?_⟩)
  · exact nodup_of_map hn1
  · exact nodup_of_map hn2
  · obtain ⟨j, hj, hg⟩ := stp_mem hx
    exact List.mem_of_getElem? hg
  · obtain ⟨a, ha⟩ := List.mem_iff_getElem?.1 hx
    have hal : a < l.length := by have := (List.getElem?_eq_some_iff.1 ha).1; rwa [nds_len] at this
    obtain ⟨j, hj, rfl⟩ := kf_onto (at_ := at_) hal
    exact List.mem_filterMap.2 ⟨j, List.mem_range.2 hj, ha⟩
theorem drop_push_perm {C : List Nd} {L : List Nd} {x : Nd} (h : C.Perm L) (hx : x ∈ C) (hn : (C.map Nd.id).Nodup) : (C.eraseP (fun y => y.id == x.id) ++ [x]).Perm L := by
  obtain ⟨i, hi⟩ := List.mem_iff_getElem?.1 hx
  have h1 := eraseP_idx (.refl C) hn hi
  obtain ⟨hi2, rfl⟩ := List.getElem?_eq_some_iff.1 hi
  have h2 := erase_perm C i hi2
  exact ((List.perm_append_singleton _ _).trans ((h1.symm.cons _).trans h2.symm)).trans h
theorem dropU_c {T : Nat → Prop} {h : Nat} {C : List Nd} {w : World} (H : HAt h C T w) (hlt : ∀ i, T i → i < w.heap.size) {k : Nat} (hk : (idn k).toInt = (k : Int)) (hC : C.length ≤ 700000) {r : Rk} (hx : (⟨r, idn k⟩ : Nd) ∈ C) : Calls Try.prog 16 #[ptrV h, .int .i64 (k : Int)] w fun e w' => ∃ v, e = .returned v ∧ Mod T w w' ∧ (v = .tuple #[.agg (rkc r), .int .i64 0] ∧ HAt h (C.eraseP (fun y => y.id == idn k)) (Grow T w w') w') := by
  have hh := dropH_c H hlt (idn k) hC ⟨_, hx, rfl⟩
  rw [hk] at hh
  refine hh.mono ?_
  rintro e w' ⟨⟨y, hy, hyi, he⟩, hA', hm⟩
  have hxy : y = ⟨r, idn k⟩ := by
    obtain ⟨i, hi⟩ := List.mem_iff_getElem?.1 hx
    obtain ⟨j, hj⟩ := List.mem_iff_getElem?.1 hy
    have e1 : (C.map Nd.id)[i]? = some (idn k) := by rw [List.getElem?_map, hi]; rfl
    have e2 : (C.map Nd.id)[j]? = some (idn k) := by rw [List.getElem?_map, hj]; simp [hyi]
    have := (List.getElem?_inj (List.getElem?_eq_some_iff.1 e1).1 H.ids).1 (e1.trans e2.symm)
    subst this
    rw [hi] at hj
    exact (Option.some.inj hj).symm
  subst hxy
  exact ⟨_, he, hm, rfl, (HAt.good h _).gr _ _ _ (fun _ h => .inl h) hA'⟩
theorem pushU_c {T : Nat → Prop} {h : Nat} {C : List Nd} {w : World} (H : HAt h C T w) (hlt : ∀ i, T i → i < w.heap.size) {k : Nat} (hk : (idn k).toInt = (k : Int)) (hC : C.length ≤ 700000) (r : Rk) (hx : ∀ x ∈ C, x.id ≠ idn k) : Calls Try.prog 14 #[ptrV h, .agg (rkc r), .int .i64 (k : Int)] w fun e w' => ∃ v, e = .returned v ∧ Mod T w w' ∧ (v = .int .i64 0 ∧ HAt h (C ++ [⟨r, idn k⟩]) (Grow T w w') w') := by
  have hh := pushH_c H hlt r (idn k) hC hx
  rw [hk] at hh
  refine hh.mono ?_
  rintro e w' ⟨he, T', hA', hm, g1, g2⟩
  exact ⟨_, he, hm, rfl, (HAt.good h _).gr _ _ _ (fun i hi => (g1 i hi).elim .inl (fun h => .inr ⟨h, g2 i hi⟩)) hA'⟩
theorem erase_new {C : List Nd} (hn : (C.map Nd.id).Nodup) {x : Nd} (hx : x ∈ C) : ∀ y ∈ C.eraseP (fun y => y.id == x.id), y.id ≠ x.id := fun y hy e => by
  have h1 := drop_push_perm (.refl C) hx hn
  have h2 : ((C.eraseP (fun y => y.id == x.id) ++ [x]).map Nd.id).Nodup := (h1.map Nd.id).nodup_iff.2 hn
  rw [List.map_append, List.nodup_append] at h2
  exact h2.2.2 y.id (List.mem_map.2 ⟨y, hy, rfl⟩) x.id (by simp) e
set_option maxRecDepth 20000 in
set_option maxHeartbeats 12800000 in
theorem orderLaw_c (a : Option Addr) (l : List Rk) (c : Nat) (x : UInt8) (a2 : Option Addr) (ag : List UInt8) (c2 : Nat) (w : World) (hl : SlAt rkc 2 w a l) (hl2 : SlAt u8c 1 w a2 ag) : Calls Try.prog 7 #[.slice a l.length c, .int .u8 (x.toNat : Int), .slice a2 ag.length c2] w fun e w' => e = .returned (.bool true) ∧ Mod (fun _ => False) w w' := by
  have HL := Lib.hid (And.intro hl hl2)
  clear hl hl2
  go_enter Try.func7, Try.ntmps7
  by_cases hg1 : l.length ≤ 60
  case neg =>
    have hd : decide ((60 : Int) < (l.length : Int)) = true := decide_eq_true (by omega)
    go_wp2_with fail
    go_at_call 9
    refine (lives_c _).mono ?_
    rintro e w4 ⟨rfl, m4⟩
    go_wp2_with fail
    go_ret
    exact ⟨rfl, m4⟩
  have hd : decide ((60 : Int) < (l.length : Int)) = false := decide_eq_false (by omega)
  by_cases hg2 : l.length = 0
  · have hd2 : ((l.length : Int) == 0) = true := by rw [beq_iff_eq]; omega
    clear hg1 hg2
    go_wp2_with fail
    go_at_call 9
    refine (lives_c _).mono ?_
    rintro e w4 ⟨rfl, m4⟩
    go_wp2_with fail
    go_ret
    exact ⟨rfl, m4⟩
  have hd2 : ((l.length : Int) == 0) = false := by rw [beq_eq_false_iff_ne]; omega
  by_cases hg3 : ag.length ≤ 60
  case neg =>
    have hd3 : decide ((60 : Int) < (ag.length : Int)) = true := decide_eq_true (by omega)
    clear hg1 hg2 hg3
    go_wp2_with fail
    go_at_call 9
    refine (lives_c _).mono ?_
    rintro e w4 ⟨rfl, m4⟩
    go_wp2_with fail
    go_ret
    exact ⟨rfl, m4⟩
  have hd3 : decide ((60 : Int) < (ag.length : Int)) = false := decide_eq_false (by omega)
  have HG := Lib.hid (And.intro hg1 (And.intro hg2 hg3))
  clear hg1 hg2 hg3
  go_wp2_with fail
  go_at_call 25
  refine (filled_c a l c w HL.out.1 (by have := HG.out.1; omega)).mono ?_
  rintro e w1 ⟨h, rfl, hx⟩
  have HA := Lib.hid hx
  clear hx
  go_wp2_with fail
  go_at_call 10
  refine (HH.new w1).mono ?_
  rintro e w2 ⟨o, rfl, hx⟩
  have HX : Hid (HH w1 o (stp l x.toNat 0) w2) := Lib.hid hx
  clear hx hd hd3
  go_wp2_with fail
  have hx256 := x.toNat_lt
  obtain ⟨n1, hn1⟩ : ∃ n1, l.length = n1 + 1 := ⟨l.length - 1, by have := HG.out.2.1; omega⟩
  have hg60 := HG.out.1
  have hwx : IntKind.i64.wrap (x.toNat : Int) = (x.toNat : Int) := by
    rw [IntKind.wrap_i64]
    omega
  have hw1 : IntKind.i64.wrap ((l.length : Int) - 1) = (n1 : Int) := by
    rw [IntKind.wrap_i64]
    omega
  have hl0 : ¬ ((l.length : Int) = 0) := by omega
  have HN := Lib.hid hn1
  clear hn1
  go_loopw [10, 11] (fun s10 _ ws => ∃ i : Nat, i ≤ l.length ∧ s10 = .int .i64 (i : Int) ∧ Hid (HH w1 o (stp l x.toNat i) ws)) (fun s10 _ _ => l.length - (intOf s10).toNat)
  case atStart => exact ⟨0, by omega, rfl, HX⟩
  case round =>
    obtain ⟨i, hi, rfl, HP⟩ := hrel
    clear HX
    by_cases hlt : i < l.length
    · obtain ⟨k, hke⟩ : ∃ k, kf l.length x.toNat i = k := ⟨_, rfl⟩
      have hkl : k < l.length := by rw [← hke]; exact kf_lt (by omega)
      obtain ⟨r, hr⟩ : ∃ r, l[k]? = some r := ⟨_, List.getElem?_eq_getElem hkl⟩
      obtain ⟨g, oo, C, U, fr, rfl, kl0, he, hle⟩ := HL.out.1.block hr
      have kl := (HA.out.m.then0 HP.out.m).at0 kl0
      obtain ⟨d, hd⟩ : ∃ d, d = n1 - i := ⟨_, rfl⟩
      obtain ⟨q, hq⟩ : ∃ q, q = d + x.toNat := ⟨_, rfl⟩
      have hw2 : IntKind.i64.wrap ((n1 : Int) - (i : Int)) = (d : Int) := by
        rw [IntKind.wrap_i64]
        have := HN.out
        omega
      have hw3 : IntKind.i64.wrap ((d : Int) + (x.toNat : Int)) = (q : Int) := by
        rw [IntKind.wrap_i64]
        have := HN.out
        omega
      have hw4 : (q : Int).tmod (l.length : Int) = (k : Int) := by
        rw [Int.tmod_eq_emod_of_nonneg (by omega), ← hke]
        unfold kf
        rw [hq, hd]
        have := HN.out
        rw [show l.length - 1 = n1 by omega]
        omega
      have HR := Lib.hid (And.intro hr (And.intro hke (And.intro hd hq)))
      have d1 : oo + k * 2 + 2 ≤ C.size := by omega
      clear hr kl0 hke hd hq hle
      go_wp2_with fail
      go_at_call 14
      have hnew := stp_new (at_ := x.toNat) hlt (by omega : l.length ≤ 1000)
      have hsucc := stp_succ (l := l) (at_ := x.toNat) (i := i) (r := r) (by rw [HR.out.2.1]; exact HR.out.1)
      rw [HR.out.2.1] at hnew hsucc
      refine (HP.out.push r (idn k) (n := (k : Int)) (idn_int (by omega)).symm (by have := stp_len l x.toNat i; omega) hnew).mono ?_
      rintro e w3 ⟨rfl, hx⟩
      rw [← hsucc] at hx
      have HX := Lib.hid hx
      clear hx kl he d1 hnew hsucc
      go_wp2_with fail
      go_roundw
      case rel => exact ⟨i + 1, by omega, by go_num, HX⟩
      case measure => simp [intOf]; omega
    · have hie : i = l.length := by omega
      subst hie
      have HY : Hid (∃ C, HH w1 o C wr ∧ C.Perm (nds l)) := Lib.hid ⟨_, HP.out, stp_perm (by omega) HP.out.ids HA.out.ids⟩
      clear HP hwx hw1
      have h3 := HG.out.2.2
      go_wp2_with fail
      go_loopw [12, 13, 14, 15] (fun s12 _ _ _ ws => ∃ j : Nat, j ≤ ag.length ∧ s12 = .int .i64 (j : Int) ∧ Hid (∃ C, HH w1 o C ws ∧ C.Perm (nds l))) (fun s12 _ _ _ _ => ag.length - (intOf s12).toNat)
      case atStart => exact ⟨0, by omega, rfl, HY⟩
      case round =>
        clear HY
        obtain ⟨j, hj, rfl, HY⟩ := hrel
        obtain ⟨C, hC, hperm⟩ := HY.out
        have hClen : C.length = l.length := by rw [hperm.length_eq, nds_len]
        have HC := Lib.hid (And.intro hC (And.intro hperm hClen))
        clear HY
        by_cases hlt2 : j < ag.length
        · obtain ⟨b, hb⟩ : ∃ b, ag[j]? = some b := ⟨_, List.getElem?_eq_getElem hlt2⟩
          obtain ⟨ge, oe, CE, UE, fre, rfl, kE0, hee, _⟩ := HL.out.2.block hb
          have hmw := HA.out.m.then0 hC.m
          have kE := hmw.at0 kE0
          have cE : CE[oe + j]? = some (.int .u8 (b.toNat : Int)) := by
            have h0 := cellC hee (j := 0) (v := .int .u8 (b.toNat : Int)) rfl
            simpa using h0
          have hb256 := b.toNat_lt
          obtain ⟨k, hke⟩ : ∃ k, b.toNat % l.length = k := ⟨_, rfl⟩
          have hkl : k < l.length := by rw [← hke]; exact Nat.mod_lt _ (by omega)
          have hwb : IntKind.i64.wrap (b.toNat : Int) = (b.toNat : Int) := by
            rw [IntKind.wrap_i64]
            omega
          have hw4 : (b.toNat : Int).tmod (l.length : Int) = (k : Int) := by
            rw [Int.tmod_eq_emod_of_nonneg (by omega), ← hke]
            omega
          obtain ⟨r, hr⟩ : ∃ r, l[k]? = some r := ⟨_, List.getElem?_eq_getElem hkl⟩
          obtain ⟨g, oo, CR, UR, frr, rfl, kl0, hra, hle⟩ := HL.out.1.block hr
          have kl := hmw.at0 kl0
          have hxC : (⟨r, idn k⟩ : Nd) ∈ C := by
            refine hperm.mem_iff.2 (List.mem_of_getElem? (i := k) ?_)
            rw [nds_get, hr]
            rfl
          have hki : (idn k).toInt = (k : Int) := idn_int (by omega)
          have HK := Lib.hid (And.intro hki (And.intro hxC hr))
          obtain ⟨T, hA, hT, hm1⟩ := hC
          have HT := Lib.hid hT
          have hgT : ¬ T g := fun ht => by
            have h1 := (HT.out g ht).1
            have h2 := lt_size kl0
            have h3 := HA.out.m.size
            omega
          have dr1 : oo + k * 2 + 2 ≤ CR.size := by omega
          have HKL := Lib.hid kl
          clear hb kE0 hee hke hxC hki hr kl0 hle hT hperm hmw
          go_upto_region 15 with fail
          have Lkl := lt_size kl
          refine wp_gpass0 (T0 := T) (K := HAt o C) (κ := fun i => [0, 0, 6, 0, 0, 0, 3, 4, 0].getD i 0) (υ := fun i => [[], [], [], [], [], [], [], [], []].getD i []) [0, 1, 2, 3, 4, 5, 6, 7, 8] (by kernel_rfl) (by kernel_rfl) (HAt.good o C).cl (hA) (fun i hi => (HT.out i hi).2) ?_
          have gK := HAt.good o C
          (refine TG.v0 (v := ?v1) (by simp only [List.getElem?_toArray, List.getElem?_cons_succ, List.getElem?_cons_zero]; rfl) rfl ?hw1 (fun w1 => ?hy1) ?hn1; (case hw1 => rfl); (case hy1 => (go_simp; (try with_reducible rfl))); (try simp only [Act.put, List.setIfInBounds_toArray, List.set_cons_zero, List.set_cons_succ]))
          (refine TG.v0 (v := ?v2) (by simp only [List.getElem?_toArray, List.getElem?_cons_succ, List.getElem?_cons_zero]; rfl) rfl ?hw2 (fun w1 => ?hy2) ?hn2; (case hw2 => rfl); (case hy2 => (go_simp; (try with_reducible rfl))); (try simp only [Act.put, List.setIfInBounds_toArray, List.set_cons_zero, List.set_cons_succ]))
          (refine TG.callK (f := ?f3) (args := ?r3) (fun v T w => v = .tuple #[.agg (rkc r), .int .i64 0] ∧ HAt o (C.eraseP (fun y => y.id == idn k)) T w) (fun v => (Good.pure (v = .tuple #[.agg (rkc r), .int .i64 0])).and (HAt.good o (C.eraseP (fun y => y.id == idn k)))) (by simp only [List.getElem?_toArray, List.getElem?_cons_succ, List.getElem?_cons_zero]; rfl) rfl ?hw3 (fun w1 => ?hy3) (fun T wq kq ltq hSq ub => ?hsp3) ?hn3; (case hw3 => rfl); (case hy3 => (go_simp; (first | with_reducible rfl | (constructor <;> with_reducible rfl)))); (case hsp3 => (have klq := hSq.at kl (by intro hT; first | exact hT | exact absurd hT (by assumption) | (simp only at hT; omega)); exact dropU_c kq ltq HK.out.1 (by have := HC.out.2.2; omega) HK.out.2.1)); rintro v3 ⟨wI, TI, hI⟩; replace gK := (fun v => (Good.pure (v = .tuple #[.agg (rkc r), .int .i64 0])).and (HAt.good o (C.eraseP (fun y => y.id == idn k)))) v3; obtain ⟨rfl, _⟩ := hI.k; (try clear hI TI wI); (try simp only [Act.put, List.setIfInBounds_toArray, List.set_cons_zero, List.set_cons_succ]))
          (refine TG.v0 (v := ?v4) (by simp only [List.getElem?_toArray, List.getElem?_cons_succ, List.getElem?_cons_zero]; rfl) rfl ?hw4 (fun w1 => ?hy4) ?hn4; (case hw4 => rfl); (case hy4 => (go_simp; (try with_reducible rfl))); (try simp only [Act.put, List.setIfInBounds_toArray, List.set_cons_zero, List.set_cons_succ]))
          (refine TG.v0 (v := ?v5) (by simp only [List.getElem?_toArray, List.getElem?_cons_succ, List.getElem?_cons_zero]; rfl) rfl ?hw5 (fun w1 => ?hy5) ?hn5; (case hw5 => rfl); (case hy5 => (go_simp; (try with_reducible rfl))); (try simp only [Act.put, List.setIfInBounds_toArray, List.set_cons_zero, List.set_cons_succ]))
          (refine TG.v0 (v := ?v6) (by simp only [List.getElem?_toArray, List.getElem?_cons_succ, List.getElem?_cons_zero]; rfl) rfl ?hw6 (fun w1 => ?hy6) ?hn6; (case hw6 => rfl); (case hy6 => (go_simp; (try with_reducible rfl))); (try simp only [Act.put, List.setIfInBounds_toArray, List.set_cons_zero, List.set_cons_succ]))
          (refine TG.allocB (by simp only [List.getElem?_toArray, List.getElem?_cons_succ, List.getElem?_cons_zero]; rfl) rfl ?hw7 rfl rfl alRk (fun p14 hp14 _ => ?hn7); (case hw7 => rfl); (try simp only [Act.put, List.setIfInBounds_toArray, List.set_cons_zero, List.set_cons_succ]))
          (refine TG.storeB (d := ?d8) (T := ?T8) (y := ?y8) (p := ?p8) (b := ?b8) (v := ?v8) (by simp only [List.getElem?_toArray, List.getElem?_cons_succ, List.getElem?_cons_zero]; rfl) rfl ?hw8 ?hd8 ?hop8 ?hev8 ?hx8 ?hb8 ?htag8 (fun w1 hb1 => ?hy8) ?hn8; (case hw8 => rfl); (case hd8 => rfl); (case hop8 => rfl); (case hev8 => (simp only [Act.eval, Array.getD_eq_getD_getElem?, List.getElem?_toArray, List.getElem?_cons_succ, List.getElem?_cons_zero, Option.getD_some]; (try rfl))); (case hx8 => (simp only [Act.eval, Array.getD_eq_getD_getElem?, List.getElem?_toArray, List.getElem?_cons_succ, List.getElem?_cons_zero, Option.getD_some]; (try rfl))); (case hb8 => first | exact Bx.set_same _ _ _ | (simp only [Bx.set_same]; rfl)); (case htag8 => rfl); (case hy8 => (go_simp; (try with_reducible rfl))); (try simp only [Act.put, List.setIfInBounds_toArray, List.set_cons_zero, List.set_cons_succ]))
          (refine TG.v0 (v := ?v9) (by simp only [List.getElem?_toArray, List.getElem?_cons_succ, List.getElem?_cons_zero]; rfl) rfl ?hw9 (fun w1 => ?hy9) ?hn9; (case hw9 => rfl); (case hy9 => (go_simp; (try with_reducible rfl))); (try simp only [Act.put, List.setIfInBounds_toArray, List.set_cons_zero, List.set_cons_succ]))
          refine TG.nil (fun w3 ⟨TR, hr⟩ => ?_)
          have kl := hr.mod.at kl (by intro hT; first | exact hT | exact absurd hT (by assumption) | (simp only at hT; omega))
          have kp14 := hr.box p14 _ (by first | exact Bx.set_same _ _ _ | (simp only [Bx.set_same]; rfl)); dsimp only [Value.cells] at kp14; obtain ⟨gp14, nTp14, kp14⟩ := kp14
          clear gK
          have hA3 := hr.k.2
          have HT3 := Lib.hid (RT.low (fun i hi => (HT.out i hi).1) hm1 hr)
          have hm3 := (HH.rt (fun i hi => (HT.out i hi).1) hm1 hr hA3).m
          have hgT3 : ¬ TR g := fun ht => hgT (hr.old g (by have := lt_size HKL.out; omega) ht)
          clear hr hA hm1
          go_upto_region 16 with fail
          have Lkl := lt_size kl
          have Lkp14 := lt_size kp14
          refine wp_gpass (T0 := TR) (K := HAt o (C.eraseP (fun y => y.id == idn k))) (κ := fun i => [0, 0, 0, 0, 0, 0, 0, 0, 0, 0, 0, 0, 0, 0, 6, 0, 0].getD i 0) (υ := fun i => [[], [], [], [], [], [], [], [], [], [], [], [], [], [], [], [], []].getD i []) [0, 1, 2, 3, 4, 5, 6, 7, 8, 9, 10, 11, 12, 13, 14, 15, 16] (by kernel_rfl) (by kernel_rfl) (HAt.good o (C.eraseP (fun y => y.id == idn k))).cl (hA3) (fun i hi => (HT3.out i hi).2) ?_
          have gK := HAt.good o (C.eraseP (fun y => y.id == idn k))
          (refine TG.load (v := ?v10) (p := ?p10) (by simp only [List.getElem?_toArray, List.getElem?_cons_succ, List.getElem?_cons_zero]; rfl) rfl ?hw10 rfl ?hx10 (fun wq hSq => ?hy10) ?hn10; (case hw10 => rfl); (case hx10 => (simp only [Act.eval, Array.getD_eq_getD_getElem?, List.getElem?_toArray, List.getElem?_cons_succ, List.getElem?_cons_zero, Option.getD_some]; (try rfl))); (case hy10 => (have klq := hSq.at kl (by intro hT; first | exact hT | exact absurd hT (by assumption) | (simp only at hT; omega)); have kp14q := hSq.at kp14 (by intro hT; first | exact hT | exact absurd hT (by assumption) | (simp only at hT; omega)); go_simp; (try with_reducible rfl))); (try simp only [Act.put, List.setIfInBounds_toArray, List.set_cons_zero, List.set_cons_succ]))
          (refine TG.v0 (v := ?v11) (by simp only [List.getElem?_toArray, List.getElem?_cons_succ, List.getElem?_cons_zero]; rfl) rfl ?hw11 (fun w1 => ?hy11) ?hn11; (case hw11 => rfl); (case hy11 => (go_simp; (try with_reducible rfl))); (try simp only [Act.put, List.setIfInBounds_toArray, List.set_cons_zero, List.set_cons_succ]))
          (refine TG.v0 (v := ?v12) (by simp only [List.getElem?_toArray, List.getElem?_cons_succ, List.getElem?_cons_zero]; rfl) rfl ?hw12 (fun w1 => ?hy12) ?hn12; (case hw12 => rfl); (case hy12 => (go_simp; (try with_reducible rfl))); (try simp only [Act.put, List.setIfInBounds_toArray, List.set_cons_zero, List.set_cons_succ]))
          (refine TG.v0 (v := ?v13) (by simp only [List.getElem?_toArray, List.getElem?_cons_succ, List.getElem?_cons_zero]; rfl) rfl ?hw13 (fun w1 => ?hy13) ?hn13; (case hw13 => rfl); (case hy13 => (go_simp; (try with_reducible rfl))); (try simp only [Act.put, List.setIfInBounds_toArray, List.set_cons_zero, List.set_cons_succ]))
          (refine TG.load (v := ?v14) (p := ?p14) (by simp only [List.getElem?_toArray, List.getElem?_cons_succ, List.getElem?_cons_zero]; rfl) rfl ?hw14 rfl ?hx14 (fun wq hSq => ?hy14) ?hn14; (case hw14 => rfl); (case hx14 => (simp only [Act.eval, Array.getD_eq_getD_getElem?, List.getElem?_toArray, List.getElem?_cons_succ, List.getElem?_cons_zero, Option.getD_some]; (try rfl))); (case hy14 => (have klq := hSq.at kl (by intro hT; first | exact hT | exact absurd hT (by assumption) | (simp only at hT; omega)); have kp14q := hSq.at kp14 (by intro hT; first | exact hT | exact absurd hT (by assumption) | (simp only at hT; omega)); go_simp; (try with_reducible rfl))); (try simp only [Act.put, List.setIfInBounds_toArray, List.set_cons_zero, List.set_cons_succ]))
          (refine TG.v0 (v := ?v15) (by simp only [List.getElem?_toArray, List.getElem?_cons_succ, List.getElem?_cons_zero]; rfl) rfl ?hw15 (fun w1 => ?hy15) ?hn15; (case hw15 => rfl); (case hy15 => (simp only [execOp, Act.eval, Array.getD_eq_getD_getElem?, List.getElem?_toArray, List.getElem?_cons_succ, List.getElem?_cons_zero, Option.getD_some, hra,rkc_ext]; go_simp; (try with_reducible rfl))); (try simp only [Act.put, List.setIfInBounds_toArray, List.set_cons_zero, List.set_cons_succ]))
          (refine TG.v0 (v := ?v16) (by simp only [List.getElem?_toArray, List.getElem?_cons_succ, List.getElem?_cons_zero]; rfl) rfl ?hw16 (fun w1 => ?hy16) ?hn16; (case hw16 => rfl); (case hy16 => (go_simp; (try with_reducible rfl))); (try simp only [Act.put, List.setIfInBounds_toArray, List.set_cons_zero, List.set_cons_succ]))
          (refine TG.v0 (v := ?v17) (by simp only [List.getElem?_toArray, List.getElem?_cons_succ, List.getElem?_cons_zero]; rfl) rfl ?hw17 (fun w1 => ?hy17) ?hn17; (case hw17 => rfl); (case hy17 => (go_simp; (try with_reducible rfl))); (try simp only [Act.put, List.setIfInBounds_toArray, List.set_cons_zero, List.set_cons_succ]))
          (refine TG.v0 (v := ?v18) (by simp only [List.getElem?_toArray, List.getElem?_cons_succ, List.getElem?_cons_zero]; rfl) rfl ?hw18 (fun w1 => ?hy18) ?hn18; (case hw18 => rfl); (case hy18 => (go_simp; (try with_reducible rfl))); (try simp only [Act.put, List.setIfInBounds_toArray, List.set_cons_zero, List.set_cons_succ]))
          (refine TG.v0 (v := ?v19) (by simp only [List.getElem?_toArray, List.getElem?_cons_succ, List.getElem?_cons_zero]; rfl) rfl ?hw19 (fun w1 => ?hy19) ?hn19; (case hw19 => rfl); (case hy19 => (go_simp; (try with_reducible rfl))); (try simp only [Act.put, List.setIfInBounds_toArray, List.set_cons_zero, List.set_cons_succ]))
          (refine TG.v0 (v := ?v20) (by simp only [List.getElem?_toArray, List.getElem?_cons_succ, List.getElem?_cons_zero]; rfl) rfl ?hw20 (fun w1 => ?hy20) ?hn20; (case hw20 => rfl); (case hy20 => (go_simp; (try with_reducible rfl))); (try simp only [Act.put, List.setIfInBounds_toArray, List.set_cons_zero, List.set_cons_succ]))
          (refine TG.v0 (v := ?v21) (by simp only [List.getElem?_toArray, List.getElem?_cons_succ, List.getElem?_cons_zero]; rfl) rfl ?hw21 (fun w1 => ?hy21) ?hn21; (case hw21 => rfl); (case hy21 => (go_simp; (try with_reducible rfl))); (try simp only [Act.put, List.setIfInBounds_toArray, List.set_cons_zero, List.set_cons_succ]))
          (refine TG.load (v := ?v22) (p := ?p22) (by simp only [List.getElem?_toArray, List.getElem?_cons_succ, List.getElem?_cons_zero]; rfl) rfl ?hw22 rfl ?hx22 (fun wq hSq => ?hy22) ?hn22; (case hw22 => rfl); (case hx22 => (simp only [Act.eval, Array.getD_eq_getD_getElem?, List.getElem?_toArray, List.getElem?_cons_succ, List.getElem?_cons_zero, Option.getD_some]; (try rfl))); (case hy22 => (have klq := hSq.at kl (by intro hT; first | exact hT | exact absurd hT (by assumption) | (simp only at hT; omega)); have kp14q := hSq.at kp14 (by intro hT; first | exact hT | exact absurd hT (by assumption) | (simp only at hT; omega)); go_simp; (try with_reducible rfl))); (try simp only [Act.put, List.setIfInBounds_toArray, List.set_cons_zero, List.set_cons_succ]))
          (refine TG.v0 (v := ?v23) (by simp only [List.getElem?_toArray, List.getElem?_cons_succ, List.getElem?_cons_zero]; rfl) rfl ?hw23 (fun w1 => ?hy23) ?hn23; (case hw23 => rfl); (case hy23 => (go_simp; (try with_reducible rfl))); (try simp only [Act.put, List.setIfInBounds_toArray, List.set_cons_zero, List.set_cons_succ]))
          (refine TG.callK (f := ?f24) (args := ?r24) (fun v T w => v = .int .i64 0 ∧ HAt o (C.eraseP (fun y => y.id == idn k) ++ [⟨r, idn k⟩]) T w) (fun v => (Good.pure (v = .int .i64 0)).and (HAt.good o (C.eraseP (fun y => y.id == idn k) ++ [⟨r, idn k⟩]))) (by simp only [List.getElem?_toArray, List.getElem?_cons_succ, List.getElem?_cons_zero]; rfl) rfl ?hw24 (fun w1 => ?hy24) (fun T wq kq ltq hSq ub => ?hsp24) ?hn24; (case hw24 => rfl); (case hy24 => (go_simp; (first | with_reducible rfl | (constructor <;> with_reducible rfl)))); (case hsp24 => (have klq := hSq.at kl (by intro hT; first | exact hT | exact absurd hT (by assumption) | (simp only at hT; omega)); have kp14q := hSq.at kp14 (by intro hT; first | exact hT | exact absurd hT (by assumption) | (simp only at hT; omega)); exact pushU_c kq ltq HK.out.1 (by have h1 := HC.out.2.2; have h2 := List.length_eraseP_le (p := fun y : Nd => y.id == idn k) (l := C); omega) r (erase_new HC.out.1.ids HK.out.2.1))); rintro v24 ⟨wI, TI, hI⟩; replace gK := (fun v => (Good.pure (v = .int .i64 0)).and (HAt.good o (C.eraseP (fun y => y.id == idn k) ++ [⟨r, idn k⟩]))) v24; obtain ⟨rfl, _⟩ := hI.k; (try clear hI TI wI); (try simp only [Act.put, List.setIfInBounds_toArray, List.set_cons_zero, List.set_cons_succ]))
          (refine TG.v0 (v := ?v25) (by simp only [List.getElem?_toArray, List.getElem?_cons_succ, List.getElem?_cons_zero]; rfl) rfl ?hw25 (fun w1 => ?hy25) ?hn25; (case hw25 => rfl); (case hy25 => (go_simp; (try with_reducible rfl))); (try simp only [Act.put, List.setIfInBounds_toArray, List.set_cons_zero, List.set_cons_succ]))
          (refine TG.v0 (v := ?v26) (by simp only [List.getElem?_toArray, List.getElem?_cons_succ, List.getElem?_cons_zero]; rfl) rfl ?hw26 (fun w1 => ?hy26) ?hn26; (case hw26 => rfl); (case hy26 => (go_simp; (try with_reducible rfl))); (try simp only [Act.put, List.setIfInBounds_toArray, List.set_cons_zero, List.set_cons_succ]))
          refine TG.nil (fun w4 ⟨TR, hr⟩ => ?_)
          have kl := hr.mod.at kl (by intro hT; first | exact hT | exact absurd hT (by assumption) | (simp only at hT; omega))
          have kp14 := hr.mod.at kp14 (by intro hT; first | exact hT | exact absurd hT (by assumption) | (simp only at hT; omega))
          clear gK
          have HF : Hid (∃ C, HH w1 o C w4 ∧ C.Perm (nds l)) := Lib.hid ⟨_, HH.rt (fun i hi => (HT3.out i hi).1) hm3 hr hr.k.2, drop_push_perm HC.out.2.1 HK.out.2.1 HC.out.1.ids⟩
          clear hr hA3 hm3 HT3 hgT3 kl kE cE hra dr1 HC HK
          go_wp2_with fail
          go_roundw
          case rel => exact ⟨j + 1, by omega, by go_num, HF⟩
          case measure => simp [intOf]; omega
        · have hje : j = ag.length := by omega
          obtain ⟨D, hD, hS⟩ := srt_exists HA.out.ids
          have HM := Lib.hid hC.m
          have H1 := Lib.hid (fun wq (hq : Mod (fun _ => False) wr wq) => (HA.out.mod0 (hC.m.then0 hq)).list hD hS (by rw [nds_len]; omega))
          have H2 := Lib.hid (fun wq (hq : Mod (fun _ => False) wr wq) => (hC.mod0 hq).list (hD.trans hperm.symm) hS (by omega))
          have hml : (D.map Nd.id).length ≤ 900000 := by rw [List.length_map, hD.length_eq, nds_len]; omega
          have HML := Lib.hid hml
          clear hC hperm hClen hD hS hml
          go_upto_region 18 with fail
          refine wp_gpass0 (T0 := fun _ => False) (K := fun _ _ => True) (κ := fun i => [0, 0, 0, 6, 0, 6, 6, 0, 0, 6, 0, 0].getD i 0) (υ := fun i => [[], [], [], [], [], [], [], [], [], [], [], []].getD i []) [0, 1, 2, 3, 4, 5, 6, 7, 8, 9, 10, 11] (by kernel_rfl) (by kernel_rfl) (Good.true).cl (trivial) (fun _ h => h.elim) ?_
          have gK := Good.true
          (refine TG.v0 (v := ?v27) (by simp only [List.getElem?_toArray, List.getElem?_cons_succ, List.getElem?_cons_zero]; rfl) rfl ?hw27 (fun w1 => ?hy27) ?hn27; (case hw27 => rfl); (case hy27 => (go_simp; (try with_reducible rfl))); (try simp only [Act.put, List.setIfInBounds_toArray, List.set_cons_zero, List.set_cons_succ]))
          (refine TG.v0 (v := ?v28) (by simp only [List.getElem?_toArray, List.getElem?_cons_succ, List.getElem?_cons_zero]; rfl) rfl ?hw28 (fun w1 => ?hy28) ?hn28; (case hw28 => rfl); (case hy28 => (go_simp; (try with_reducible rfl))); (try simp only [Act.put, List.setIfInBounds_toArray, List.set_cons_zero, List.set_cons_succ]))
          (refine TG.v0 (v := ?v29) (by simp only [List.getElem?_toArray, List.getElem?_cons_succ, List.getElem?_cons_zero]; rfl) rfl ?hw29 (fun w1 => ?hy29) ?hn29; (case hw29 => rfl); (case hy29 => (go_simp; (try with_reducible rfl))); (try simp only [Act.put, List.setIfInBounds_toArray, List.set_cons_zero, List.set_cons_succ]))
          (refine TG.callM (f := ?f30) (args := ?r30) (OwnI (D.map Nd.id)) (goodI (D.map Nd.id)) gK (by simp only [List.getElem?_toArray, List.getElem?_cons_succ, List.getElem?_cons_zero]; rfl) rfl ?hw30 (fun w1 => ?hy30) (fun T wq kq ltq hSq ub => ?hsp30) ?hn30; (case hw30 => rfl); (case hy30 => (go_simp; (first | with_reducible rfl | (constructor <;> with_reducible rfl)))); (case hsp30 => (exact (H1.out wq hSq).mono (fun e w' h => by obtain ⟨v, h1, h2, h3⟩ := h; exact ⟨v, h1, h3, ownI_new h2⟩))); rintro v30 ⟨wI, TI, hI⟩; replace gK := gK.and ((goodI (D.map Nd.id)) v30); skip; (try clear hI TI wI); (try simp only [Act.put, List.setIfInBounds_toArray, List.set_cons_zero, List.set_cons_succ]))
          (refine TG.v0 (v := ?v31) (by simp only [List.getElem?_toArray, List.getElem?_cons_succ, List.getElem?_cons_zero]; rfl) rfl ?hw31 (fun w1 => ?hy31) ?hn31; (case hw31 => rfl); (case hy31 => (go_simp; (try with_reducible rfl))); (try simp only [Act.put, List.setIfInBounds_toArray, List.set_cons_zero, List.set_cons_succ]))
          (refine TG.callM (f := ?f32) (args := ?r32) (OwnI (D.map Nd.id)) (goodI (D.map Nd.id)) gK (by simp only [List.getElem?_toArray, List.getElem?_cons_succ, List.getElem?_cons_zero]; rfl) rfl ?hw32 (fun w1 => ?hy32) (fun T wq kq ltq hSq ub => ?hsp32) ?hn32; (case hw32 => rfl); (case hy32 => (go_simp; (first | with_reducible rfl | (constructor <;> with_reducible rfl)))); (case hsp32 => (exact (H2.out wq hSq).mono (fun e w' h => by obtain ⟨v, h1, h2, h3⟩ := h; exact ⟨v, h1, h3, ownI_new h2⟩))); rintro v32 ⟨wI, TI, hI⟩; replace gK := gK.and ((goodI (D.map Nd.id)) v32); skip; (try clear hI TI wI); (try simp only [Act.put, List.setIfInBounds_toArray, List.set_cons_zero, List.set_cons_succ]))
          (refine TG.callN (f := ?f33) (args := ?r33) (fun v => v = .bool true) gK (by simp only [List.getElem?_toArray, List.getElem?_cons_succ, List.getElem?_cons_zero]; rfl) rfl ?hw33 (fun w1 => ?hy33) (fun T wq kq ltq hSq ub => ?hsp33) ?hn33; (case hw33 => rfl); (case hy33 => (go_simp; (first | with_reducible rfl | (constructor <;> with_reducible rfl)))); (case hsp33 => (exact (same_c kq.1.2.1 kq.2.1 HML.out HML.out).mono (fun e w' h => ⟨_, h.1, by simp, h.2⟩))); rintro v33 hC; subst hC; (try simp only [Act.put, List.setIfInBounds_toArray, List.set_cons_zero, List.set_cons_succ]))
          (refine TG.v0 (v := ?v34) (by simp only [List.getElem?_toArray, List.getElem?_cons_succ, List.getElem?_cons_zero]; rfl) rfl ?hw34 (fun w1 => ?hy34) ?hn34; (case hw34 => rfl); (case hy34 => (go_simp; (try with_reducible rfl))); (try simp only [Act.put, List.setIfInBounds_toArray, List.set_cons_zero, List.set_cons_succ]))
          (refine TG.v0 (v := ?v35) (by simp only [List.getElem?_toArray, List.getElem?_cons_succ, List.getElem?_cons_zero]; rfl) rfl ?hw35 (fun w1 => ?hy35) ?hn35; (case hw35 => rfl); (case hy35 => (go_simp; (try with_reducible rfl))); (try simp only [Act.put, List.setIfInBounds_toArray, List.set_cons_zero, List.set_cons_succ]))
          (refine TG.callN (f := ?f36) (args := ?r36) (fun v => v = .bool true) gK (by simp only [List.getElem?_toArray, List.getElem?_cons_succ, List.getElem?_cons_zero]; rfl) rfl ?hw36 (fun w1 => ?hy36) (fun T wq kq ltq hSq ub => ?hsp36) ?hn36; (case hw36 => rfl); (case hy36 => (go_simp; (first | with_reducible rfl | (constructor <;> with_reducible rfl)))); (case hsp36 => (exact (lives_c wq).mono (fun e w' h => ⟨_, h.1, rfl, h.2⟩))); rintro v36 hC; subst hC; (try simp only [Act.put, List.setIfInBounds_toArray, List.set_cons_zero, List.set_cons_succ]))
          (refine TG.v0 (v := ?v37) (by simp only [List.getElem?_toArray, List.getElem?_cons_succ, List.getElem?_cons_zero]; rfl) rfl ?hw37 (fun w1 => ?hy37) ?hn37; (case hw37 => rfl); (case hy37 => (go_simp; (try with_reducible rfl))); (try simp only [Act.put, List.setIfInBounds_toArray, List.set_cons_zero, List.set_cons_succ]))
          (refine TG.v0 (v := ?v38) (by simp only [List.getElem?_toArray, List.getElem?_cons_succ, List.getElem?_cons_zero]; rfl) rfl ?hw38 (fun w1 => ?hy38) ?hn38; (case hw38 => rfl); (case hy38 => (go_simp; (try with_reducible rfl))); (try simp only [Act.put, List.setIfInBounds_toArray, List.set_cons_zero, List.set_cons_succ]))
          refine TG.nil (fun w3 ⟨TR, hr⟩ => ?_)
          clear gK
          have mF := (HA.out.m.then0 HM.out).then0 hr.mod
          clear hr
          go_wp2_with fail
          go_ret
          exact ⟨rfl, mF⟩
end Go.Proofs.Ytnibhnnpjkemhaa
