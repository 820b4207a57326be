/- The walk of RanksEnds. -/
import Derived.Test.YtnibhnnpjkemhaaRen
import Derived.Test.YtnibhnnpjkemhaaRl1
namespace Go.Proofs.Ytnibhnnpjkemhaa
open Go.RowKit Go.Sort
open Go.ChangeMaps (setBlock)
set_option linter.unusedSimpArgs false
set_option linter.unusedVariables false
attribute [local go_sem ↓] wlRk ldRk stRk wlNdR ldNdR stNdR eqRk eqRk2
attribute [local go_sem] rkc_size ndc_size rn_size cell_blk frozen_blk one_int one_bool one_ptr one_slice one_map Value.cells rkc_all1 rn_r rn_i rn_all rkc_ext zRk_size zNdR_size
def sliceLen : Value → Nat
  | .slice _ n _ => n
  | _ => 0
/-- The heap, its blocks T being those that they were; what else is kept. -/
structure EI (w wL : World) (h : Nat) (l : List Rk) (T : Nat → Prop) (E : List Nd) (av : Option Addr) (cv : Nat) (ws : World) : Prop where
  hA : ∃ C, HAt h C T ws ∧ E.Perm C ∧ C.length ≤ 700000
  srt : Srt E
  at_ : SlAt ic 1 ws av (E.map Nd.id)
  far : ∀ b o, av = some ⟨b, o, none⟩ → wL.heap.size ≤ b
  some_ : E ≠ [] → ∃ b o, av = some ⟨b, o, none⟩
  cap : E.length ≤ cv
  m : Mod (fun _ => False) w ws
  sz : wL.heap.size ≤ ws.heap.size
  mem : ∀ x ∈ E, ∃ k, k < l.length ∧ l[k]? = some x.r ∧ x.id = idn k
/-- A pass that owns the heap. -/
def HTL (T : Nat → Prop) (h : Nat) (C : List Nd) : Land := fun T' w => HAt h C T w ∧ ∀ i, T i → T' i
theorem goodHT (T : Nat → Prop) (h : Nat) (C : List Nd) : Good (HTL T h C) where
  cl := fun T' w w' H hm => ⟨(HAt.good h C).cl T w w' H.1 (hm.mono (fun i _ hn ht => hn (H.2 i ht))), H.2⟩
  gr := fun T' T'' w hT H => ⟨H.1, fun i hi => hT i (H.2 i hi)⟩
theorem HTL.drop {T T' : Nat → Prop} {h : Nat} {C : List Nd} {w : World} (H : HTL T h C T' w) (hlt : ∀ i, T' i → i < w.heap.size) (id : Int64) (hC : C.length ≤ 700000) {x : Nd} (hx : x ∈ C) (hid : x.id = id) : Calls Try.prog 16 #[ptrV h, .int .i64 id.toInt] w fun e w' => ∃ v, e = .returned v ∧ Mod T' w w' ∧ (v = .tuple #[.agg (rkc x.r), .int .i64 0] ∧ HTL T h (C.eraseP (fun y => y.id == id)) (Grow T' w w') w') := by
  refine (dropH_c H.1 (fun i hi => hlt i (H.2 i hi)) id hC ⟨x, hx, hid⟩).mono ?_
  rintro e w' ⟨⟨y, hy, hyi, he⟩, hA', hm⟩
  have hxy : y = x := by
    have hnd := H.1.ids
    obtain ⟨i, hi⟩ := List.mem_iff_getElem?.1 hx
    obtain ⟨j, hj⟩ := List.mem_iff_getElem?.1 hy
    have e1 : (C.map Nd.id)[i]? = some id := by rw [List.getElem?_map, hi]; simp [hid]
    have e2 : (C.map Nd.id)[j]? = some id := by rw [List.getElem?_map, hj]; simp [hyi]
    have := (List.getElem?_inj (List.getElem?_eq_some_iff.1 e1).1 hnd).1 (e1.trans e2.symm)
    subst this
    rw [hi] at hj
    exact (Option.some.inj hj).symm
  subst hxy
  exact ⟨_, he, hm.mono (fun i _ e => H.2 i e), rfl, hA', fun i hi => .inl (H.2 i hi)⟩
theorem EI.mod0 {w wL ws w2 : World} {h : Nat} {l : List Rk} {T : Nat → Prop} {E : List Nd} {av : Option Addr} {cv : Nat} (H : EI w wL h l T E av cv ws) (hm : Mod (fun _ => False) ws w2) : EI w wL h l T E av cv w2 := by
  obtain ⟨C, hA, hp, hC⟩ := H.hA
  exact ⟨⟨C, (HAt.good h C).cl T ws w2 hA (hm.mono (fun _ _ e => e.elim)), hp, hC⟩, H.srt, H.at_.mod0 hm, H.far, H.some_, H.cap, H.m.then0 hm, Nat.le_trans H.sz hm.size, H.mem⟩
theorem slD {g o n cv : Nat} (hn : 0 < n) (hc : n ≤ cv) : ∃ a1 c1, (∀ w2, (Instr.sliceAt 40 (.slice (some ⟨g, o, none⟩) n cv) (some (.int .i64 1)) none none).run Try.prog w2 = .ok (.slice a1 (n - 1) c1) w2) ∧ (∀ ws (L : List Int64), L.length = n → SlAt ic 1 ws (some ⟨g, o, none⟩) L → SlAt ic 1 ws a1 (L.drop 1)) ∧ n - 1 ≤ c1 ∧ (∀ b o', a1 = some ⟨b, o', none⟩ → b = g) ∧ ∃ b o', a1 = some ⟨b, o', none⟩ := by
  refine ⟨some (if cv = 1 then ⟨g, o, none⟩ else ⟨g, o + 1 * 1, none⟩), cv - 1, fun w2 => sl_drop (k := 1) intT (by omega) hc w2, fun ws L hL h => ?_, by omega, fun b o' e => ?_, ?_⟩
  · by_cases h1 : cv = 1
    · rw [if_pos h1, List.drop_of_length_le (by omega)]
      exact .inl rfl
    · rw [if_neg h1]
      exact h.drop 1
  · split at e <;> cases e <;> rfl
  · split
    · exact ⟨_, _, rfl⟩
    · exact ⟨_, _, rfl⟩
/-- Of two that stand one behind the other in the list. -/
theorem two_of {E : List Nd} {i : Nat} {A B : Nd} (hs : Srt E) (hA : E[i]? = some A) (hB : E[i + 1]? = some B) : nlt A B = true := by
  obtain ⟨h1, rfl⟩ := List.getElem?_eq_some_iff.1 hA
  obtain ⟨h2, rfl⟩ := List.getElem?_eq_some_iff.1 hB
  exact List.pairwise_iff_getElem.1 hs i (i + 1) h1 h2 (by omega)
set_option maxRecDepth 20000 in
set_option maxHeartbeats 12800000 in
theorem endsLaw_c (a : Option Addr) (l : List Rk) (c : Nat) (a2 : Option Addr) (ends : List Bool) (c2 : Nat) (w : World) (hl : SlAt rkc 2 w a l) (hl2 : SlAt boc 1 w a2 ends) : Calls Try.prog 6 #[.slice a l.length c, .slice a2 ends.length c2] w fun e w' => e = .returned (.bool true) ∧ Mod (fun _ => False) w w' := by
  have HL := Lib.hid (And.intro hl hl2)
  clear hl hl2
  go_enter Try.func6, Try.ntmps6
  by_cases hg : l.length ≤ 100 ∧ ends.length ≤ 200
  case neg =>
    have hg2 : ¬ (l.length ≤ 100) ∨ ¬ (ends.length ≤ 200) := by omega
    clear hg
    rcases hg2 with hg2 | hg2
    · have hd : decide ((100 : Int) < (l.length : Int)) = true := decide_eq_true (by omega)
      go_wp2_with fail
      go_at_call 9
      refine (lives_c _).mono ?_
      rintro e w4 ⟨rfl, m4⟩
      go_wp2_with fail
      go_ret
      exact ⟨rfl, m4⟩
    · have hd : decide ((200 : Int) < (ends.length : Int)) = true := decide_eq_true (by omega)
      by_cases hg3 : l.length ≤ 100
      · have hd3 : decide ((100 : Int) < (l.length : Int)) = false := decide_eq_false (by omega)
        go_wp2_with fail
        go_at_call 9
        refine (lives_c _).mono ?_
        rintro e w4 ⟨rfl, m4⟩
        go_wp2_with fail
        go_ret
        exact ⟨rfl, m4⟩
      · have hd3 : decide ((100 : Int) < (l.length : Int)) = true := decide_eq_true (by omega)
        go_wp2_with fail
        go_at_call 9
        refine (lives_c _).mono ?_
        rintro e w4 ⟨rfl, m4⟩
        go_wp2_with fail
        go_ret
        exact ⟨rfl, m4⟩
  obtain ⟨hg1, hg2⟩ := hg
  have hd : decide ((100 : Int) < (l.length : Int)) = false := decide_eq_false (by omega)
  have hd2 : decide ((200 : Int) < (ends.length : Int)) = false := decide_eq_false (by omega)
  go_wp2_with fail
  go_at_call 25
  refine (filled_c a l c w HL.out.1 (by omega)).mono ?_
  rintro e wL ⟨h, rfl, hx⟩
  obtain ⟨T, hA, hT, hmL⟩ := hx
  have HA := Lib.hid (And.intro hA hmL)
  have HT0 := Lib.hid hT
  obtain ⟨D, hD, hS⟩ := srt_exists hA.ids
  have HD := Lib.hid (And.intro hD hS)
  have hDl : D.length = l.length := by rw [hD.length_eq, nds_len]
  clear hA hT hmL hD hS
  go_wp2_with fail
  go_at_call 19
  refine (listS_c HA.out.1 HD.out.1 HD.out.2 (by rw [nds_len]; omega)).mono ?_
  rintro e w3 ⟨v, rfl, hown, mq⟩
  obtain ⟨av, cv, rfl, hat, _⟩ := hown.at intT
  have hfar : ∀ b o, av = some ⟨b, o, none⟩ → wL.heap.size ≤ b := fun b o e => (hown.lt b (by rw [e]; rfl)).1
  have hcap : D.length ≤ cv ∧ (D ≠ [] → ∃ b o, av = some ⟨b, o, none⟩) := by
    rcases hown.2 with ⟨e, hn⟩ | ⟨g, cap, cur, e, hb, hg, hnc, hcm, hcs, _⟩
    · rw [List.length_map] at hn
      exact ⟨by omega, fun hne => absurd (List.eq_nil_of_length_eq_zero hn) hne⟩
    · simp only [Value.slice.injEq] at e
      rw [List.length_map] at hnc
      exact ⟨by omega, fun _ => ⟨g, 0, e.1⟩⟩
  have HE0 : Hid (EI w wL h l T D av cv w3) := Lib.hid ⟨⟨nds l, (HAt.good h _).cl T wL w3 HA.out.1 (mq.mono (fun _ _ e => e.elim)), HD.out.1, by rw [nds_len]; omega⟩, HD.out.2, hat, hfar, hcap.2, hcap.1, HA.out.2.then0 mq, mq.size, fun x hx => by
    obtain ⟨k, h1, h2, h3⟩ := nds_mem (HD.out.1.mem_iff.1 hx)
    exact ⟨k, h1, h2, h3⟩⟩
  rw [List.length_map]
  have hnn : ((D.length : Int) != (l.length : Int)) = false := by rw [hDl]; simp
  clear hown mq hat hfar hcap HA HD
  go_wp2_with fail
  clear hnn
  go_loopw [8, 9, 10] (fun s8 _ _ ws => ∃ i : Nat, 1 ≤ i ∧ i ≤ l.length + 1 ∧ s8 = .int .i64 (i : Int) ∧ Mod (fun _ => False) w3 ws) (fun s8 _ _ _ => l.length + 1 - (intOf s8).toNat)
  case atStart => exact ⟨1, by omega, by omega, rfl, Mod.refl _ _⟩
  case round =>
    obtain ⟨i, hi1, hi, rfl, hm⟩ := hrel
    have HE := Lib.hid (HE0.out.mod0 hm)
    obtain ⟨wa, rfl⟩ : ∃ wa : World, wa = wr := ⟨_, rfl⟩
    by_cases hlt : i < D.length
    · obtain ⟨A, hAi⟩ : ∃ A, D[i - 1]? = some A := ⟨_, List.getElem?_eq_getElem (by omega)⟩
      obtain ⟨B, hBi⟩ : ∃ B, D[i]? = some B := ⟨_, List.getElem?_eq_getElem hlt⟩
      have hAB := two_of HE.out.srt hAi (by rw [show i - 1 + 1 = i by omega]; exact hBi)
      obtain ⟨ka, ha1, ha2, ha3⟩ := HE.out.mem A (List.mem_of_getElem? hAi)
      obtain ⟨kb, hb1, hb2, hb3⟩ := HE.out.mem B (List.mem_of_getElem? hBi)
      obtain ⟨Ar, Ai⟩ := A
      obtain ⟨Br, Bi⟩ := B
      dsimp only at ha2 ha3 hb2 hb3
      subst ha3
      subst hb3
      have hka : (idn ka).toInt = (ka : Int) := idn_int (by omega)
      have hkb : (idn kb).toInt = (kb : Int) := idn_int (by omega)
      have hai2 : (D.map Nd.id)[i - 1]? = some (idn ka) := by rw [List.getElem?_map, hAi]; rfl
      have hbi2 : (D.map Nd.id)[i]? = some (idn kb) := by rw [List.getElem?_map, hBi]; rfl
      obtain ⟨g, o, CC, U, fr, hav, kI, hea, _⟩ := HE.out.at_.block hai2
      obtain ⟨g', o', CC', U', fr', hav', kI', heb, _⟩ := HE.out.at_.block hbi2
      rw [hav] at hav'
      cases hav'
      rw [kI] at kI'
      cases kI'
      have qa : CC[o + (i - 1)]? = some (.int .i64 (ka : Int)) := by
        have h0 := cellC hea (j := 0) (v := .int .i64 (idn ka).toInt) rfl
        rw [hka] at h0
        simpa using h0
      have qb : CC[o + i]? = some (.int .i64 (kb : Int)) := by
        have h0 := cellC heb (j := 0) (v := .int .i64 (idn kb).toInt) rfl
        rw [hkb] at h0
        simpa using h0
      obtain ⟨gr, orr, CR, UR, frr, har, kR0, hra, hrla⟩ := HL.out.1.block ha2
      obtain ⟨gr', orr', CR', UR', frr', har', kR', hrb, hrlb⟩ := HL.out.1.block hb2
      rw [har] at har'
      cases har'
      rw [kR0] at kR'
      cases kR'
      have kR := HE.out.m.at0 kR0
      subst hav
      subst har
      have hw1 : IntKind.i64.wrap ((i : Int) - 1) = ((i - 1 : Nat) : Int) := by
        rw [IntKind.wrap_i64]
        omega
      have hAf : Ahead Br Ar = false := by
        cases hq : Ahead Br Ar
        · rfl
        · have h1 : nlt ⟨Br, idn kb⟩ ⟨Ar, idn ka⟩ = true := by rw [nlt_of, hq]; rfl
          rw [nlt_asymm hAB] at h1
          cases h1
      have HAB := Lib.hid (And.intro hAB (And.intro hka hkb))
      have hln0 : i - 1 < D.length := by omega
      have gA1 : ¬ (l.length ≤ ka) := by omega
      have gA2 : ¬ ((l.length : Int) ≤ (ka : Int)) := by omega
      have gB1 : ¬ (l.length ≤ kb) := by omega
      have gB2 : ¬ ((l.length : Int) ≤ (kb : Int)) := by omega
      have gA3 : ¬ ((ka : Int) < 0) := by omega
      have gB3 : ¬ ((kb : Int) < 0) := by omega
      clear hAB hka hkb hai2 hbi2 hea heb hAi hBi ha2 hb2 kR0
      go_upto_region 14 with fail
      by_cases hq : Ar = Br
      · have hde := decide_eq_true hq
        have hk : ka < kb := by
          have h1 := HAB.out.1
          rw [nlt_of, show Ahead Ar Br = false by rw [hq]; exact Ahead_self _, hde] at h1
          simp only [Bool.false_or, Bool.true_and, decide_eq_true_eq] at h1
          rw [HAB.out.2.1, HAB.out.2.2] at h1
          omega
        have hk2 : ¬ (kb ≤ ka) := by omega
        have hk3 : ¬ ((kb : Int) ≤ (ka : Int)) := by omega
        subst hq
        have LkR := lt_size kR
        have LkI := lt_size kI
        refine wp_pass (C := fun _ _ v => v = .bool false) (κ := fun i => [0, 0, 0, 0, 0, 0, 0, 0, 0, 0, 0, 0, 0, 0, 0, 0, 0, 0, 0, 0, 0, 0, 1, 0, 0, 0, 1, 2, 0, 0, 0, 0, 0, 1, 0, 0, 0, 1, 0, 0, 0, 0, 0, 0, 0].getD i 0) [0, 1, 2, 3, 4, 5, 6, 7, 8, 9, 10, 11, 12, 13, 14, 15, 16, 17, 18, 19, 20, 21, 22, 23, 24, 25, 26, 27, 28, 29, 30, 31, 32, 33, 34, 35, 36, 37, 38, 39, 40, 41, 42, 43, 44] (by kernel_rfl) (by kernel_rfl) (fun _ _ d _ _ h => by cases d <;> exact h) ?_
        (refine TD.val0 (v := ?v1) (by simp only [List.getElem?_toArray, List.getElem?_cons_succ, List.getElem?_cons_zero]; rfl) rfl ?hw1 (fun w1 => ?hy1) ?hn1; (case hw1 => rfl); (case hy1 => (go_simp; (try with_reducible rfl))); (try simp only [Act.put, List.setIfInBounds_toArray, List.set_cons_zero, List.set_cons_succ]))
        (refine TD.val0 (v := ?v2) (by simp only [List.getElem?_toArray, List.getElem?_cons_succ, List.getElem?_cons_zero]; rfl) rfl ?hw2 (fun w1 => ?hy2) ?hn2; (case hw2 => rfl); (case hy2 => (go_simp; (try with_reducible rfl))); (try simp only [Act.put, List.setIfInBounds_toArray, List.set_cons_zero, List.set_cons_succ]))
        (refine TD.val0 (v := ?v3) (by simp only [List.getElem?_toArray, List.getElem?_cons_succ, List.getElem?_cons_zero]; rfl) rfl ?hw3 (fun w1 => ?hy3) ?hn3; (case hw3 => rfl); (case hy3 => (go_simp; (try with_reducible rfl))); (try simp only [Act.put, List.setIfInBounds_toArray, List.set_cons_zero, List.set_cons_succ]))
        (refine TD.val0 (v := ?v4) (by simp only [List.getElem?_toArray, List.getElem?_cons_succ, List.getElem?_cons_zero]; rfl) rfl ?hw4 (fun w1 => ?hy4) ?hn4; (case hw4 => rfl); (case hy4 => (go_simp; (try with_reducible rfl))); (try simp only [Act.put, List.setIfInBounds_toArray, List.set_cons_zero, List.set_cons_succ]))
        (refine TD.val0 (v := ?v5) (by simp only [List.getElem?_toArray, List.getElem?_cons_succ, List.getElem?_cons_zero]; rfl) rfl ?hw5 (fun w1 => ?hy5) ?hn5; (case hw5 => rfl); (case hy5 => (go_simp; (try with_reducible rfl))); (try simp only [Act.put, List.setIfInBounds_toArray, List.set_cons_zero, List.set_cons_succ]))
        (refine TD.val0 (v := ?v6) (by simp only [List.getElem?_toArray, List.getElem?_cons_succ, List.getElem?_cons_zero]; rfl) rfl ?hw6 (fun w1 => ?hy6) ?hn6; (case hw6 => rfl); (case hy6 => (go_simp; (try with_reducible rfl))); (try simp only [Act.put, List.setIfInBounds_toArray, List.set_cons_zero, List.set_cons_succ]))
        (refine TD.val0 (v := ?v7) (by simp only [List.getElem?_toArray, List.getElem?_cons_succ, List.getElem?_cons_zero]; rfl) rfl ?hw7 (fun w1 => ?hy7) ?hn7; (case hw7 => rfl); (case hy7 => (go_simp; (try with_reducible rfl))); (try simp only [Act.put, List.setIfInBounds_toArray, List.set_cons_zero, List.set_cons_succ]))
        (refine TD.val0 (v := ?v8) (by simp only [List.getElem?_toArray, List.getElem?_cons_succ, List.getElem?_cons_zero]; rfl) rfl ?hw8 (fun w1 => ?hy8) ?hn8; (case hw8 => rfl); (case hy8 => (go_simp; (try with_reducible rfl))); (try simp only [Act.put, List.setIfInBounds_toArray, List.set_cons_zero, List.set_cons_succ]))
        (refine TD.val0 (v := ?v9) (by simp only [List.getElem?_toArray, List.getElem?_cons_succ, List.getElem?_cons_zero]; rfl) rfl ?hw9 (fun w1 => ?hy9) ?hn9; (case hw9 => rfl); (case hy9 => (go_simp; (try with_reducible rfl))); (try simp only [Act.put, List.setIfInBounds_toArray, List.set_cons_zero, List.set_cons_succ]))
        (refine TD.val0 (v := ?v10) (by simp only [List.getElem?_toArray, List.getElem?_cons_succ, List.getElem?_cons_zero]; rfl) rfl ?hw10 (fun w1 => ?hy10) ?hn10; (case hw10 => rfl); (case hy10 => (go_simp; (try with_reducible rfl))); (try simp only [Act.put, List.setIfInBounds_toArray, List.set_cons_zero, List.set_cons_succ]))
        (refine TD.val0 (v := ?v11) (by simp only [List.getElem?_toArray, List.getElem?_cons_succ, List.getElem?_cons_zero]; rfl) rfl ?hw11 (fun w1 => ?hy11) ?hn11; (case hw11 => rfl); (case hy11 => (go_simp; (try with_reducible rfl))); (try simp only [Act.put, List.setIfInBounds_toArray, List.set_cons_zero, List.set_cons_succ]))
        (refine TD.val0 (v := ?v12) (by simp only [List.getElem?_toArray, List.getElem?_cons_succ, List.getElem?_cons_zero]; rfl) rfl ?hw12 (fun w1 => ?hy12) ?hn12; (case hw12 => rfl); (case hy12 => (go_simp; (try with_reducible rfl))); (try simp only [Act.put, List.setIfInBounds_toArray, List.set_cons_zero, List.set_cons_succ]))
        (refine TD.val0 (v := ?v13) (by simp only [List.getElem?_toArray, List.getElem?_cons_succ, List.getElem?_cons_zero]; rfl) rfl ?hw13 (fun w1 => ?hy13) ?hn13; (case hw13 => rfl); (case hy13 => (go_simp; (try with_reducible rfl))); (try simp only [Act.put, List.setIfInBounds_toArray, List.set_cons_zero, List.set_cons_succ]))
        (refine TD.val0 (v := ?v14) (by simp only [List.getElem?_toArray, List.getElem?_cons_succ, List.getElem?_cons_zero]; rfl) rfl ?hw14 (fun w1 => ?hy14) ?hn14; (case hw14 => rfl); (case hy14 => (go_simp; (try with_reducible rfl))); (try simp only [Act.put, List.setIfInBounds_toArray, List.set_cons_zero, List.set_cons_succ]))
        (refine TD.val0 (v := ?v15) (by simp only [List.getElem?_toArray, List.getElem?_cons_succ, List.getElem?_cons_zero]; rfl) rfl ?hw15 (fun w1 => ?hy15) ?hn15; (case hw15 => rfl); (case hy15 => (go_simp; (try with_reducible rfl))); (try simp only [Act.put, List.setIfInBounds_toArray, List.set_cons_zero, List.set_cons_succ]))
        (refine TD.val0 (v := ?v16) (by simp only [List.getElem?_toArray, List.getElem?_cons_succ, List.getElem?_cons_zero]; rfl) rfl ?hw16 (fun w1 => ?hy16) ?hn16; (case hw16 => rfl); (case hy16 => (go_simp; (try with_reducible rfl))); (try simp only [Act.put, List.setIfInBounds_toArray, List.set_cons_zero, List.set_cons_succ]))
        (refine TD.val0 (v := ?v17) (by simp only [List.getElem?_toArray, List.getElem?_cons_succ, List.getElem?_cons_zero]; rfl) rfl ?hw17 (fun w1 => ?hy17) ?hn17; (case hw17 => rfl); (case hy17 => (go_simp; (try with_reducible rfl))); (try simp only [Act.put, List.setIfInBounds_toArray, List.set_cons_zero, List.set_cons_succ]))
        (refine TD.val0 (v := ?v18) (by simp only [List.getElem?_toArray, List.getElem?_cons_succ, List.getElem?_cons_zero]; rfl) rfl ?hw18 (fun w1 => ?hy18) ?hn18; (case hw18 => rfl); (case hy18 => (go_simp; (try with_reducible rfl))); (try simp only [Act.put, List.setIfInBounds_toArray, List.set_cons_zero, List.set_cons_succ]))
        (refine TD.val0 (v := ?v19) (by simp only [List.getElem?_toArray, List.getElem?_cons_succ, List.getElem?_cons_zero]; rfl) rfl ?hw19 (fun w1 => ?hy19) ?hn19; (case hw19 => rfl); (case hy19 => (go_simp; (try with_reducible rfl))); (try simp only [Act.put, List.setIfInBounds_toArray, List.set_cons_zero, List.set_cons_succ]))
        (refine TD.val0 (v := ?v20) (by simp only [List.getElem?_toArray, List.getElem?_cons_succ, List.getElem?_cons_zero]; rfl) rfl ?hw20 (fun w1 => ?hy20) ?hn20; (case hw20 => rfl); (case hy20 => (go_simp; (try with_reducible rfl))); (try simp only [Act.put, List.setIfInBounds_toArray, List.set_cons_zero, List.set_cons_succ]))
        (refine TD.val0 (v := ?v21) (by simp only [List.getElem?_toArray, List.getElem?_cons_succ, List.getElem?_cons_zero]; rfl) rfl ?hw21 (fun w1 => ?hy21) ?hn21; (case hw21 => rfl); (case hy21 => (go_simp; (try with_reducible rfl))); (try simp only [Act.put, List.setIfInBounds_toArray, List.set_cons_zero, List.set_cons_succ]))
        (refine TD.val0 (v := ?v22) (by simp only [List.getElem?_toArray, List.getElem?_cons_succ, List.getElem?_cons_zero]; rfl) rfl ?hw22 (fun w1 => ?hy22) ?hn22; (case hw22 => rfl); (case hy22 => (go_simp; (try with_reducible rfl))); (try simp only [Act.put, List.setIfInBounds_toArray, List.set_cons_zero, List.set_cons_succ]))
        (refine TD.load (v := ?v23) (p := ?p23) (Mod.refl _ _) (by simp only [List.getElem?_toArray, List.getElem?_cons_succ, List.getElem?_cons_zero]; rfl) rfl ?hw23 rfl ?hx23 (fun wq hSq => ?hy23) ?hn23; (case hw23 => rfl); (case hx23 => (simp only [Act.eval, Array.getD_eq_getD_getElem?, List.getElem?_toArray, List.getElem?_cons_succ, List.getElem?_cons_zero, Option.getD_some]; (try rfl))); (case hy23 => (have kRq := hSq.at kR (fun h => h); have kIq := hSq.at kI (fun h => h); go_simp; (try with_reducible rfl))); (try simp only [Act.put, List.setIfInBounds_toArray, List.set_cons_zero, List.set_cons_succ]))
        (refine TD.val0 (v := ?v24) (by simp only [List.getElem?_toArray, List.getElem?_cons_succ, List.getElem?_cons_zero]; rfl) rfl ?hw24 (fun w1 => ?hy24) ?hn24; (case hw24 => rfl); (case hy24 => (go_simp; (try with_reducible rfl))); (try simp only [Act.put, List.setIfInBounds_toArray, List.set_cons_zero, List.set_cons_succ]))
        (refine TD.val0 (v := ?v25) (by simp only [List.getElem?_toArray, List.getElem?_cons_succ, List.getElem?_cons_zero]; rfl) rfl ?hw25 (fun w1 => ?hy25) ?hn25; (case hw25 => rfl); (case hy25 => (go_simp; (try with_reducible rfl))); (try simp only [Act.put, List.setIfInBounds_toArray, List.set_cons_zero, List.set_cons_succ]))
        (refine TD.val0 (v := ?v26) (by simp only [List.getElem?_toArray, List.getElem?_cons_succ, List.getElem?_cons_zero]; rfl) rfl ?hw26 (fun w1 => ?hy26) ?hn26; (case hw26 => rfl); (case hy26 => (go_simp; (try with_reducible rfl))); (try simp only [Act.put, List.setIfInBounds_toArray, List.set_cons_zero, List.set_cons_succ]))
        (refine TD.load (v := ?v27) (p := ?p27) (Mod.refl _ _) (by simp only [List.getElem?_toArray, List.getElem?_cons_succ, List.getElem?_cons_zero]; rfl) rfl ?hw27 rfl ?hx27 (fun wq hSq => ?hy27) ?hn27; (case hw27 => rfl); (case hx27 => (simp only [Act.eval, Array.getD_eq_getD_getElem?, List.getElem?_toArray, List.getElem?_cons_succ, List.getElem?_cons_zero, Option.getD_some]; (try rfl))); (case hy27 => (have kRq := hSq.at kR (fun h => h); have kIq := hSq.at kI (fun h => h); go_simp; (try with_reducible rfl))); (try simp only [Act.put, List.setIfInBounds_toArray, List.set_cons_zero, List.set_cons_succ]))
        (refine TD.call (f := ?f28) (args := ?r28) (Mod.refl _ _) (by simp only [List.getElem?_toArray, List.getElem?_cons_succ, List.getElem?_cons_zero]; rfl) rfl ?hw28 (fun w1 => ?hy28) ?hsp28 ?hn28; (case hw28 => rfl); (case hy28 => (go_simp; (first | with_reducible rfl | (constructor <;> with_reducible rfl)))); (case hsp28 => (intro wq hSq; have kRq := hSq.at kR (fun h => h); have kIq := hSq.at kI (fun h => h); exact (aheadC Ar Ar wq).mono (fun e w' hh => by obtain ⟨v, h1, h2, h3⟩ := hh; exact ⟨v, h1, by rw [h2, hAf], h3⟩))); rintro _ rfl; (try simp only [Act.put, List.setIfInBounds_toArray, List.set_cons_zero, List.set_cons_succ]))
        (refine TD.val0 (v := ?v29) (by simp only [List.getElem?_toArray, List.getElem?_cons_succ, List.getElem?_cons_zero]; rfl) rfl ?hw29 (fun w1 => ?hy29) ?hn29; (case hw29 => rfl); (case hy29 => (go_simp; (try with_reducible rfl))); (try simp only [Act.put, List.setIfInBounds_toArray, List.set_cons_zero, List.set_cons_succ]))
        (refine TD.val0 (v := ?v30) (by simp only [List.getElem?_toArray, List.getElem?_cons_succ, List.getElem?_cons_zero]; rfl) rfl ?hw30 (fun w1 => ?hy30) ?hn30; (case hw30 => rfl); (case hy30 => (go_simp; (try with_reducible rfl))); (try simp only [Act.put, List.setIfInBounds_toArray, List.set_cons_zero, List.set_cons_succ]))
        (refine TD.val0 (v := ?v31) (by simp only [List.getElem?_toArray, List.getElem?_cons_succ, List.getElem?_cons_zero]; rfl) rfl ?hw31 (fun w1 => ?hy31) ?hn31; (case hw31 => rfl); (case hy31 => (go_simp; (try with_reducible rfl))); (try simp only [Act.put, List.setIfInBounds_toArray, List.set_cons_zero, List.set_cons_succ]))
        (refine TD.val0 (v := ?v32) (by simp only [List.getElem?_toArray, List.getElem?_cons_succ, List.getElem?_cons_zero]; rfl) rfl ?hw32 (fun w1 => ?hy32) ?hn32; (case hw32 => rfl); (case hy32 => (go_simp; (try with_reducible rfl))); (try simp only [Act.put, List.setIfInBounds_toArray, List.set_cons_zero, List.set_cons_succ]))
        (refine TD.val0 (v := ?v33) (by simp only [List.getElem?_toArray, List.getElem?_cons_succ, List.getElem?_cons_zero]; rfl) rfl ?hw33 (fun w1 => ?hy33) ?hn33; (case hw33 => rfl); (case hy33 => (go_simp; (try with_reducible rfl))); (try simp only [Act.put, List.setIfInBounds_toArray, List.set_cons_zero, List.set_cons_succ]))
        (refine TD.load (v := ?v34) (p := ?p34) (Mod.refl _ _) (by simp only [List.getElem?_toArray, List.getElem?_cons_succ, List.getElem?_cons_zero]; rfl) rfl ?hw34 rfl ?hx34 (fun wq hSq => ?hy34) ?hn34; (case hw34 => rfl); (case hx34 => (simp only [Act.eval, Array.getD_eq_getD_getElem?, List.getElem?_toArray, List.getElem?_cons_succ, List.getElem?_cons_zero, Option.getD_some]; (try rfl))); (case hy34 => (have kRq := hSq.at kR (fun h => h); have kIq := hSq.at kI (fun h => h); go_simp; (try with_reducible rfl))); (try simp only [Act.put, List.setIfInBounds_toArray, List.set_cons_zero, List.set_cons_succ]))
        (refine TD.val0 (v := ?v35) (by simp only [List.getElem?_toArray, List.getElem?_cons_succ, List.getElem?_cons_zero]; rfl) rfl ?hw35 (fun w1 => ?hy35) ?hn35; (case hw35 => rfl); (case hy35 => (go_simp; (try with_reducible rfl))); (try simp only [Act.put, List.setIfInBounds_toArray, List.set_cons_zero, List.set_cons_succ]))
        (refine TD.val0 (v := ?v36) (by simp only [List.getElem?_toArray, List.getElem?_cons_succ, List.getElem?_cons_zero]; rfl) rfl ?hw36 (fun w1 => ?hy36) ?hn36; (case hw36 => rfl); (case hy36 => (go_simp; (try with_reducible rfl))); (try simp only [Act.put, List.setIfInBounds_toArray, List.set_cons_zero, List.set_cons_succ]))
        (refine TD.val0 (v := ?v37) (by simp only [List.getElem?_toArray, List.getElem?_cons_succ, List.getElem?_cons_zero]; rfl) rfl ?hw37 (fun w1 => ?hy37) ?hn37; (case hw37 => rfl); (case hy37 => (go_simp; (try with_reducible rfl))); (try simp only [Act.put, List.setIfInBounds_toArray, List.set_cons_zero, List.set_cons_succ]))
        (refine TD.load (v := ?v38) (p := ?p38) (Mod.refl _ _) (by simp only [List.getElem?_toArray, List.getElem?_cons_succ, List.getElem?_cons_zero]; rfl) rfl ?hw38 rfl ?hx38 (fun wq hSq => ?hy38) ?hn38; (case hw38 => rfl); (case hx38 => (simp only [Act.eval, Array.getD_eq_getD_getElem?, List.getElem?_toArray, List.getElem?_cons_succ, List.getElem?_cons_zero, Option.getD_some]; (try rfl))); (case hy38 => (have kRq := hSq.at kR (fun h => h); have kIq := hSq.at kI (fun h => h); go_simp; (try with_reducible rfl))); (try simp only [Act.put, List.setIfInBounds_toArray, List.set_cons_zero, List.set_cons_succ]))
        (refine TD.val0 (v := ?v39) (by simp only [List.getElem?_toArray, List.getElem?_cons_succ, List.getElem?_cons_zero]; rfl) rfl ?hw39 (fun w1 => ?hy39) ?hn39; (case hw39 => rfl); (case hy39 => (simp only [execOp, Act.eval, Array.getD_eq_getD_getElem?, List.getElem?_toArray, List.getElem?_cons_succ, List.getElem?_cons_zero, Option.getD_some, hra,hrb]; go_simp; (try with_reducible rfl))); (try simp only [Act.put, List.setIfInBounds_toArray, List.set_cons_zero, List.set_cons_succ]))
        (refine TD.val0 (v := ?v40) (by simp only [List.getElem?_toArray, List.getElem?_cons_succ, List.getElem?_cons_zero]; rfl) rfl ?hw40 (fun w1 => ?hy40) ?hn40; (case hw40 => rfl); (case hy40 => (go_simp; (try with_reducible rfl))); (try simp only [Act.put, List.setIfInBounds_toArray, List.set_cons_zero, List.set_cons_succ]))
        (refine TD.val0 (v := ?v41) (by simp only [List.getElem?_toArray, List.getElem?_cons_succ, List.getElem?_cons_zero]; rfl) rfl ?hw41 (fun w1 => ?hy41) ?hn41; (case hw41 => rfl); (case hy41 => (go_simp; (try with_reducible rfl))); (try simp only [Act.put, List.setIfInBounds_toArray, List.set_cons_zero, List.set_cons_succ]))
        (refine TD.val0 (v := ?v42) (by simp only [List.getElem?_toArray, List.getElem?_cons_succ, List.getElem?_cons_zero]; rfl) rfl ?hw42 (fun w1 => ?hy42) ?hn42; (case hw42 => rfl); (case hy42 => (go_simp; (try with_reducible rfl))); (try simp only [Act.put, List.setIfInBounds_toArray, List.set_cons_zero, List.set_cons_succ]))
        (refine TD.val0 (v := ?v43) (by simp only [List.getElem?_toArray, List.getElem?_cons_succ, List.getElem?_cons_zero]; rfl) rfl ?hw43 (fun w1 => ?hy43) ?hn43; (case hw43 => rfl); (case hy43 => (go_simp; (try with_reducible rfl))); (try simp only [Act.put, List.setIfInBounds_toArray, List.set_cons_zero, List.set_cons_succ]))
        (refine TD.val0 (v := ?v44) (by simp only [List.getElem?_toArray, List.getElem?_cons_succ, List.getElem?_cons_zero]; rfl) rfl ?hw44 (fun w1 => ?hy44) ?hn44; (case hw44 => rfl); (case hy44 => (go_simp; (try with_reducible rfl))); (try simp only [Act.put, List.setIfInBounds_toArray, List.set_cons_zero, List.set_cons_succ]))
        (refine TD.val0 (v := ?v45) (by simp only [List.getElem?_toArray, List.getElem?_cons_succ, List.getElem?_cons_zero]; rfl) rfl ?hw45 (fun w1 => ?hy45) ?hn45; (case hw45 => rfl); (case hy45 => (go_simp; (try with_reducible rfl))); (try simp only [Act.put, List.setIfInBounds_toArray, List.set_cons_zero, List.set_cons_succ]))
        refine TD.nil (fun w5 hr => ?_)
        have kR := hr.mod.at kR (fun h => h)
        have kI := hr.mod.at kI (fun h => h)
        have mF := hm.then0 hr.mod
        clear hr
        go_wp2_with fail
        go_roundw
        case rel => exact ⟨i + 1, by omega, by omega, by go_num, mF⟩
        case measure => simp [intOf]; omega
      · have hde := decide_eq_false hq
        have LkR := lt_size kR
        have LkI := lt_size kI
        refine wp_pass (C := fun _ _ v => v = .bool false) (κ := fun i => [0, 0, 0, 0, 0, 0, 0, 0, 0, 0, 0, 0, 0, 0, 0, 0, 0, 0, 0, 0, 0, 0, 1, 0, 0, 0, 1, 2, 0, 0, 0, 0, 0, 1, 0, 0, 0, 1, 0, 0, 0, 0, 0, 0, 0].getD i 0) [0, 1, 2, 3, 4, 5, 6, 7, 8, 9, 10, 11, 12, 13, 14, 15, 16, 17, 18, 19, 20, 21, 22, 23, 24, 25, 26, 27, 28, 29, 30, 31, 32, 33, 34, 35, 36, 37, 38, 39, 40, 41, 42, 43, 44] (by kernel_rfl) (by kernel_rfl) (fun _ _ d _ _ h => by cases d <;> exact h) ?_
        (refine TD.val0 (v := ?v46) (by simp only [List.getElem?_toArray, List.getElem?_cons_succ, List.getElem?_cons_zero]; rfl) rfl ?hw46 (fun w1 => ?hy46) ?hn46; (case hw46 => rfl); (case hy46 => (go_simp; (try with_reducible rfl))); (try simp only [Act.put, List.setIfInBounds_toArray, List.set_cons_zero, List.set_cons_succ]))
        (refine TD.val0 (v := ?v47) (by simp only [List.getElem?_toArray, List.getElem?_cons_succ, List.getElem?_cons_zero]; rfl) rfl ?hw47 (fun w1 => ?hy47) ?hn47; (case hw47 => rfl); (case hy47 => (go_simp; (try with_reducible rfl))); (try simp only [Act.put, List.setIfInBounds_toArray, List.set_cons_zero, List.set_cons_succ]))
        (refine TD.val0 (v := ?v48) (by simp only [List.getElem?_toArray, List.getElem?_cons_succ, List.getElem?_cons_zero]; rfl) rfl ?hw48 (fun w1 => ?hy48) ?hn48; (case hw48 => rfl); (case hy48 => (go_simp; (try with_reducible rfl))); (try simp only [Act.put, List.setIfInBounds_toArray, List.set_cons_zero, List.set_cons_succ]))
        (refine TD.val0 (v := ?v49) (by simp only [List.getElem?_toArray, List.getElem?_cons_succ, List.getElem?_cons_zero]; rfl) rfl ?hw49 (fun w1 => ?hy49) ?hn49; (case hw49 => rfl); (case hy49 => (go_simp; (try with_reducible rfl))); (try simp only [Act.put, List.setIfInBounds_toArray, List.set_cons_zero, List.set_cons_succ]))
        (refine TD.val0 (v := ?v50) (by simp only [List.getElem?_toArray, List.getElem?_cons_succ, List.getElem?_cons_zero]; rfl) rfl ?hw50 (fun w1 => ?hy50) ?hn50; (case hw50 => rfl); (case hy50 => (go_simp; (try with_reducible rfl))); (try simp only [Act.put, List.setIfInBounds_toArray, List.set_cons_zero, List.set_cons_succ]))
        (refine TD.val0 (v := ?v51) (by simp only [List.getElem?_toArray, List.getElem?_cons_succ, List.getElem?_cons_zero]; rfl) rfl ?hw51 (fun w1 => ?hy51) ?hn51; (case hw51 => rfl); (case hy51 => (go_simp; (try with_reducible rfl))); (try simp only [Act.put, List.setIfInBounds_toArray, List.set_cons_zero, List.set_cons_succ]))
        (refine TD.val0 (v := ?v52) (by simp only [List.getElem?_toArray, List.getElem?_cons_succ, List.getElem?_cons_zero]; rfl) rfl ?hw52 (fun w1 => ?hy52) ?hn52; (case hw52 => rfl); (case hy52 => (go_simp; (try with_reducible rfl))); (try simp only [Act.put, List.setIfInBounds_toArray, List.set_cons_zero, List.set_cons_succ]))
        (refine TD.val0 (v := ?v53) (by simp only [List.getElem?_toArray, List.getElem?_cons_succ, List.getElem?_cons_zero]; rfl) rfl ?hw53 (fun w1 => ?hy53) ?hn53; (case hw53 => rfl); (case hy53 => (go_simp; (try with_reducible rfl))); (try simp only [Act.put, List.setIfInBounds_toArray, List.set_cons_zero, List.set_cons_succ]))
        (refine TD.val0 (v := ?v54) (by simp only [List.getElem?_toArray, List.getElem?_cons_succ, List.getElem?_cons_zero]; rfl) rfl ?hw54 (fun w1 => ?hy54) ?hn54; (case hw54 => rfl); (case hy54 => (go_simp; (try with_reducible rfl))); (try simp only [Act.put, List.setIfInBounds_toArray, List.set_cons_zero, List.set_cons_succ]))
        (refine TD.val0 (v := ?v55) (by simp only [List.getElem?_toArray, List.getElem?_cons_succ, List.getElem?_cons_zero]; rfl) rfl ?hw55 (fun w1 => ?hy55) ?hn55; (case hw55 => rfl); (case hy55 => (go_simp; (try with_reducible rfl))); (try simp only [Act.put, List.setIfInBounds_toArray, List.set_cons_zero, List.set_cons_succ]))
        (refine TD.val0 (v := ?v56) (by simp only [List.getElem?_toArray, List.getElem?_cons_succ, List.getElem?_cons_zero]; rfl) rfl ?hw56 (fun w1 => ?hy56) ?hn56; (case hw56 => rfl); (case hy56 => (go_simp; (try with_reducible rfl))); (try simp only [Act.put, List.setIfInBounds_toArray, List.set_cons_zero, List.set_cons_succ]))
        (refine TD.val0 (v := ?v57) (by simp only [List.getElem?_toArray, List.getElem?_cons_succ, List.getElem?_cons_zero]; rfl) rfl ?hw57 (fun w1 => ?hy57) ?hn57; (case hw57 => rfl); (case hy57 => (go_simp; (try with_reducible rfl))); (try simp only [Act.put, List.setIfInBounds_toArray, List.set_cons_zero, List.set_cons_succ]))
        (refine TD.val0 (v := ?v58) (by simp only [List.getElem?_toArray, List.getElem?_cons_succ, List.getElem?_cons_zero]; rfl) rfl ?hw58 (fun w1 => ?hy58) ?hn58; (case hw58 => rfl); (case hy58 => (go_simp; (try with_reducible rfl))); (try simp only [Act.put, List.setIfInBounds_toArray, List.set_cons_zero, List.set_cons_succ]))
        (refine TD.val0 (v := ?v59) (by simp only [List.getElem?_toArray, List.getElem?_cons_succ, List.getElem?_cons_zero]; rfl) rfl ?hw59 (fun w1 => ?hy59) ?hn59; (case hw59 => rfl); (case hy59 => (go_simp; (try with_reducible rfl))); (try simp only [Act.put, List.setIfInBounds_toArray, List.set_cons_zero, List.set_cons_succ]))
        (refine TD.val0 (v := ?v60) (by simp only [List.getElem?_toArray, List.getElem?_cons_succ, List.getElem?_cons_zero]; rfl) rfl ?hw60 (fun w1 => ?hy60) ?hn60; (case hw60 => rfl); (case hy60 => (go_simp; (try with_reducible rfl))); (try simp only [Act.put, List.setIfInBounds_toArray, List.set_cons_zero, List.set_cons_succ]))
        (refine TD.val0 (v := ?v61) (by simp only [List.getElem?_toArray, List.getElem?_cons_succ, List.getElem?_cons_zero]; rfl) rfl ?hw61 (fun w1 => ?hy61) ?hn61; (case hw61 => rfl); (case hy61 => (go_simp; (try with_reducible rfl))); (try simp only [Act.put, List.setIfInBounds_toArray, List.set_cons_zero, List.set_cons_succ]))
        (refine TD.val0 (v := ?v62) (by simp only [List.getElem?_toArray, List.getElem?_cons_succ, List.getElem?_cons_zero]; rfl) rfl ?hw62 (fun w1 => ?hy62) ?hn62; (case hw62 => rfl); (case hy62 => (go_simp; (try with_reducible rfl))); (try simp only [Act.put, List.setIfInBounds_toArray, List.set_cons_zero, List.set_cons_succ]))
        (refine TD.val0 (v := ?v63) (by simp only [List.getElem?_toArray, List.getElem?_cons_succ, List.getElem?_cons_zero]; rfl) rfl ?hw63 (fun w1 => ?hy63) ?hn63; (case hw63 => rfl); (case hy63 => (go_simp; (try with_reducible rfl))); (try simp only [Act.put, List.setIfInBounds_toArray, List.set_cons_zero, List.set_cons_succ]))
        (refine TD.val0 (v := ?v64) (by simp only [List.getElem?_toArray, List.getElem?_cons_succ, List.getElem?_cons_zero]; rfl) rfl ?hw64 (fun w1 => ?hy64) ?hn64; (case hw64 => rfl); (case hy64 => (go_simp; (try with_reducible rfl))); (try simp only [Act.put, List.setIfInBounds_toArray, List.set_cons_zero, List.set_cons_succ]))
        (refine TD.val0 (v := ?v65) (by simp only [List.getElem?_toArray, List.getElem?_cons_succ, List.getElem?_cons_zero]; rfl) rfl ?hw65 (fun w1 => ?hy65) ?hn65; (case hw65 => rfl); (case hy65 => (go_simp; (try with_reducible rfl))); (try simp only [Act.put, List.setIfInBounds_toArray, List.set_cons_zero, List.set_cons_succ]))
        (refine TD.val0 (v := ?v66) (by simp only [List.getElem?_toArray, List.getElem?_cons_succ, List.getElem?_cons_zero]; rfl) rfl ?hw66 (fun w1 => ?hy66) ?hn66; (case hw66 => rfl); (case hy66 => (go_simp; (try with_reducible rfl))); (try simp only [Act.put, List.setIfInBounds_toArray, List.set_cons_zero, List.set_cons_succ]))
        (refine TD.val0 (v := ?v67) (by simp only [List.getElem?_toArray, List.getElem?_cons_succ, List.getElem?_cons_zero]; rfl) rfl ?hw67 (fun w1 => ?hy67) ?hn67; (case hw67 => rfl); (case hy67 => (go_simp; (try with_reducible rfl))); (try simp only [Act.put, List.setIfInBounds_toArray, List.set_cons_zero, List.set_cons_succ]))
        (refine TD.load (v := ?v68) (p := ?p68) (Mod.refl _ _) (by simp only [List.getElem?_toArray, List.getElem?_cons_succ, List.getElem?_cons_zero]; rfl) rfl ?hw68 rfl ?hx68 (fun wq hSq => ?hy68) ?hn68; (case hw68 => rfl); (case hx68 => (simp only [Act.eval, Array.getD_eq_getD_getElem?, List.getElem?_toArray, List.getElem?_cons_succ, List.getElem?_cons_zero, Option.getD_some]; (try rfl))); (case hy68 => (have kRq := hSq.at kR (fun h => h); have kIq := hSq.at kI (fun h => h); go_simp; (try with_reducible rfl))); (try simp only [Act.put, List.setIfInBounds_toArray, List.set_cons_zero, List.set_cons_succ]))
        (refine TD.val0 (v := ?v69) (by simp only [List.getElem?_toArray, List.getElem?_cons_succ, List.getElem?_cons_zero]; rfl) rfl ?hw69 (fun w1 => ?hy69) ?hn69; (case hw69 => rfl); (case hy69 => (go_simp; (try with_reducible rfl))); (try simp only [Act.put, List.setIfInBounds_toArray, List.set_cons_zero, List.set_cons_succ]))
        (refine TD.val0 (v := ?v70) (by simp only [List.getElem?_toArray, List.getElem?_cons_succ, List.getElem?_cons_zero]; rfl) rfl ?hw70 (fun w1 => ?hy70) ?hn70; (case hw70 => rfl); (case hy70 => (go_simp; (try with_reducible rfl))); (try simp only [Act.put, List.setIfInBounds_toArray, List.set_cons_zero, List.set_cons_succ]))
        (refine TD.val0 (v := ?v71) (by simp only [List.getElem?_toArray, List.getElem?_cons_succ, List.getElem?_cons_zero]; rfl) rfl ?hw71 (fun w1 => ?hy71) ?hn71; (case hw71 => rfl); (case hy71 => (go_simp; (try with_reducible rfl))); (try simp only [Act.put, List.setIfInBounds_toArray, List.set_cons_zero, List.set_cons_succ]))
        (refine TD.load (v := ?v72) (p := ?p72) (Mod.refl _ _) (by simp only [List.getElem?_toArray, List.getElem?_cons_succ, List.getElem?_cons_zero]; rfl) rfl ?hw72 rfl ?hx72 (fun wq hSq => ?hy72) ?hn72; (case hw72 => rfl); (case hx72 => (simp only [Act.eval, Array.getD_eq_getD_getElem?, List.getElem?_toArray, List.getElem?_cons_succ, List.getElem?_cons_zero, Option.getD_some]; (try rfl))); (case hy72 => (have kRq := hSq.at kR (fun h => h); have kIq := hSq.at kI (fun h => h); go_simp; (try with_reducible rfl))); (try simp only [Act.put, List.setIfInBounds_toArray, List.set_cons_zero, List.set_cons_succ]))
        (refine TD.call (f := ?f73) (args := ?r73) (Mod.refl _ _) (by simp only [List.getElem?_toArray, List.getElem?_cons_succ, List.getElem?_cons_zero]; rfl) rfl ?hw73 (fun w1 => ?hy73) ?hsp73 ?hn73; (case hw73 => rfl); (case hy73 => (go_simp; (first | with_reducible rfl | (constructor <;> with_reducible rfl)))); (case hsp73 => (intro wq hSq; have kRq := hSq.at kR (fun h => h); have kIq := hSq.at kI (fun h => h); exact (aheadC Br Ar wq).mono (fun e w' hh => by obtain ⟨v, h1, h2, h3⟩ := hh; exact ⟨v, h1, by rw [h2, hAf], h3⟩))); rintro _ rfl; (try simp only [Act.put, List.setIfInBounds_toArray, List.set_cons_zero, List.set_cons_succ]))
        (refine TD.val0 (v := ?v74) (by simp only [List.getElem?_toArray, List.getElem?_cons_succ, List.getElem?_cons_zero]; rfl) rfl ?hw74 (fun w1 => ?hy74) ?hn74; (case hw74 => rfl); (case hy74 => (go_simp; (try with_reducible rfl))); (try simp only [Act.put, List.setIfInBounds_toArray, List.set_cons_zero, List.set_cons_succ]))
        (refine TD.val0 (v := ?v75) (by simp only [List.getElem?_toArray, List.getElem?_cons_succ, List.getElem?_cons_zero]; rfl) rfl ?hw75 (fun w1 => ?hy75) ?hn75; (case hw75 => rfl); (case hy75 => (go_simp; (try with_reducible rfl))); (try simp only [Act.put, List.setIfInBounds_toArray, List.set_cons_zero, List.set_cons_succ]))
        (refine TD.val0 (v := ?v76) (by simp only [List.getElem?_toArray, List.getElem?_cons_succ, List.getElem?_cons_zero]; rfl) rfl ?hw76 (fun w1 => ?hy76) ?hn76; (case hw76 => rfl); (case hy76 => (go_simp; (try with_reducible rfl))); (try simp only [Act.put, List.setIfInBounds_toArray, List.set_cons_zero, List.set_cons_succ]))
        (refine TD.val0 (v := ?v77) (by simp only [List.getElem?_toArray, List.getElem?_cons_succ, List.getElem?_cons_zero]; rfl) rfl ?hw77 (fun w1 => ?hy77) ?hn77; (case hw77 => rfl); (case hy77 => (go_simp; (try with_reducible rfl))); (try simp only [Act.put, List.setIfInBounds_toArray, List.set_cons_zero, List.set_cons_succ]))
        (refine TD.val0 (v := ?v78) (by simp only [List.getElem?_toArray, List.getElem?_cons_succ, List.getElem?_cons_zero]; rfl) rfl ?hw78 (fun w1 => ?hy78) ?hn78; (case hw78 => rfl); (case hy78 => (go_simp; (try with_reducible rfl))); (try simp only [Act.put, List.setIfInBounds_toArray, List.set_cons_zero, List.set_cons_succ]))
        (refine TD.load (v := ?v79) (p := ?p79) (Mod.refl _ _) (by simp only [List.getElem?_toArray, List.getElem?_cons_succ, List.getElem?_cons_zero]; rfl) rfl ?hw79 rfl ?hx79 (fun wq hSq => ?hy79) ?hn79; (case hw79 => rfl); (case hx79 => (simp only [Act.eval, Array.getD_eq_getD_getElem?, List.getElem?_toArray, List.getElem?_cons_succ, List.getElem?_cons_zero, Option.getD_some]; (try rfl))); (case hy79 => (have kRq := hSq.at kR (fun h => h); have kIq := hSq.at kI (fun h => h); go_simp; (try with_reducible rfl))); (try simp only [Act.put, List.setIfInBounds_toArray, List.set_cons_zero, List.set_cons_succ]))
        (refine TD.val0 (v := ?v80) (by simp only [List.getElem?_toArray, List.getElem?_cons_succ, List.getElem?_cons_zero]; rfl) rfl ?hw80 (fun w1 => ?hy80) ?hn80; (case hw80 => rfl); (case hy80 => (go_simp; (try with_reducible rfl))); (try simp only [Act.put, List.setIfInBounds_toArray, List.set_cons_zero, List.set_cons_succ]))
        (refine TD.val0 (v := ?v81) (by simp only [List.getElem?_toArray, List.getElem?_cons_succ, List.getElem?_cons_zero]; rfl) rfl ?hw81 (fun w1 => ?hy81) ?hn81; (case hw81 => rfl); (case hy81 => (go_simp; (try with_reducible rfl))); (try simp only [Act.put, List.setIfInBounds_toArray, List.set_cons_zero, List.set_cons_succ]))
        (refine TD.val0 (v := ?v82) (by simp only [List.getElem?_toArray, List.getElem?_cons_succ, List.getElem?_cons_zero]; rfl) rfl ?hw82 (fun w1 => ?hy82) ?hn82; (case hw82 => rfl); (case hy82 => (go_simp; (try with_reducible rfl))); (try simp only [Act.put, List.setIfInBounds_toArray, List.set_cons_zero, List.set_cons_succ]))
        (refine TD.load (v := ?v83) (p := ?p83) (Mod.refl _ _) (by simp only [List.getElem?_toArray, List.getElem?_cons_succ, List.getElem?_cons_zero]; rfl) rfl ?hw83 rfl ?hx83 (fun wq hSq => ?hy83) ?hn83; (case hw83 => rfl); (case hx83 => (simp only [Act.eval, Array.getD_eq_getD_getElem?, List.getElem?_toArray, List.getElem?_cons_succ, List.getElem?_cons_zero, Option.getD_some]; (try rfl))); (case hy83 => (have kRq := hSq.at kR (fun h => h); have kIq := hSq.at kI (fun h => h); go_simp; (try with_reducible rfl))); (try simp only [Act.put, List.setIfInBounds_toArray, List.set_cons_zero, List.set_cons_succ]))
        (refine TD.val0 (v := ?v84) (by simp only [List.getElem?_toArray, List.getElem?_cons_succ, List.getElem?_cons_zero]; rfl) rfl ?hw84 (fun w1 => ?hy84) ?hn84; (case hw84 => rfl); (case hy84 => (simp only [execOp, Act.eval, Array.getD_eq_getD_getElem?, List.getElem?_toArray, List.getElem?_cons_succ, List.getElem?_cons_zero, Option.getD_some, hra,hrb]; go_simp; (try with_reducible rfl))); (try simp only [Act.put, List.setIfInBounds_toArray, List.set_cons_zero, List.set_cons_succ]))
        (refine TD.val0 (v := ?v85) (by simp only [List.getElem?_toArray, List.getElem?_cons_succ, List.getElem?_cons_zero]; rfl) rfl ?hw85 (fun w1 => ?hy85) ?hn85; (case hw85 => rfl); (case hy85 => (go_simp; (try with_reducible rfl))); (try simp only [Act.put, List.setIfInBounds_toArray, List.set_cons_zero, List.set_cons_succ]))
        (refine TD.pass (by simp only [List.getElem?_toArray, List.getElem?_cons_succ, List.getElem?_cons_zero]; rfl) rfl ?hw86 ?hn86; (case hw86 => rfl); (try simp only [Act.put, List.setIfInBounds_toArray, List.set_cons_zero, List.set_cons_succ]))
        (refine TD.pass (by simp only [List.getElem?_toArray, List.getElem?_cons_succ, List.getElem?_cons_zero]; rfl) rfl ?hw87 ?hn87; (case hw87 => rfl); (try simp only [Act.put, List.setIfInBounds_toArray, List.set_cons_zero, List.set_cons_succ]))
        (refine TD.pass (by simp only [List.getElem?_toArray, List.getElem?_cons_succ, List.getElem?_cons_zero]; rfl) rfl ?hw88 ?hn88; (case hw88 => rfl); (try simp only [Act.put, List.setIfInBounds_toArray, List.set_cons_zero, List.set_cons_succ]))
        (refine TD.val0 (v := ?v89) (by simp only [List.getElem?_toArray, List.getElem?_cons_succ, List.getElem?_cons_zero]; rfl) rfl ?hw89 (fun w1 => ?hy89) ?hn89; (case hw89 => rfl); (case hy89 => (go_simp; (try with_reducible rfl))); (try simp only [Act.put, List.setIfInBounds_toArray, List.set_cons_zero, List.set_cons_succ]))
        (refine TD.val0 (v := ?v90) (by simp only [List.getElem?_toArray, List.getElem?_cons_succ, List.getElem?_cons_zero]; rfl) rfl ?hw90 (fun w1 => ?hy90) ?hn90; (case hw90 => rfl); (case hy90 => (go_simp; (try with_reducible rfl))); (try simp only [Act.put, List.setIfInBounds_toArray, List.set_cons_zero, List.set_cons_succ]))
        refine TD.nil (fun w5 hr => ?_)
        have kR := hr.mod.at kR (fun h => h)
        have kI := hr.mod.at kI (fun h => h)
        have mF := hm.then0 hr.mod
        clear hr
        go_wp2_with fail
        go_roundw
        case rel => exact ⟨i + 1, by omega, by omega, by go_num, mF⟩
        case measure => simp [intOf]; omega
    · clear HE0 hm
      go_wp2_with fail
      go_loopw [7, 11, 12, 13, 14, 15, 16, 17, 18] (fun s7 s11 _ _ _ _ _ _ _ ws => ∃ (E : List Nd) (av : Option Addr) (cv i : Nat), s7 = .slice av E.length cv ∧ i + E.length = l.length ∧ s11 = .int .i64 (i : Int) ∧ Hid (EI w wL h l T E av cv ws)) (fun s7 _ _ _ _ _ _ _ _ _ => sliceLen s7)
      case atStart => exact ⟨D, av, cv, 0, by rw [hDl], by omega, rfl, HE⟩
      case round =>
        clear HE
        obtain ⟨E, av, cv, i, rfl, hil, rfl, HE⟩ := hrel
        by_cases hE : E = []
        · subst hE
          have HC0 : Hid (HAt h [] T wr ∧ Mod (fun _ => False) w wr) := Lib.hid (by
            obtain ⟨C, hA, hp, _⟩ := HE.out.hA
            obtain rfl := (endS0 hp).2 rfl
            exact ⟨hA, HE.out.m⟩)
          have HCq := Lib.hid (fun wq (hq : Mod (fun _ => False) wr wq) => (HAt.good h []).cl T wr wq HC0.out.1 (hq.mono (fun _ _ e => e.elim)))
          go_upto_region 32 with fail
          refine wp_pass0 (C := fun _ _ v => v = .tuple #[.agg (rkc rk0), .int .i64 0, .bool false]) (κ := fun i => [0, 2, 0, 0, 0, 0, 3, 4, 0, 0].getD i 0) [0, 1, 2, 3, 4, 5, 6, 7, 8, 9] (by kernel_rfl) (by kernel_rfl) (fun _ _ d _ _ h => by cases d <;> exact h) ?_
          (refine TD.val0 (v := ?v91) (by simp only [List.getElem?_toArray, List.getElem?_cons_succ, List.getElem?_cons_zero]; rfl) rfl ?hw91 (fun w1 => ?hy91) ?hn91; (case hw91 => rfl); (case hy91 => (go_simp; (try with_reducible rfl))); (try simp only [Act.put, List.setIfInBounds_toArray, List.set_cons_zero, List.set_cons_succ]))
          (refine TD.call (f := ?f92) (args := ?r92) (Mod.refl _ _) (by simp only [List.getElem?_toArray, List.getElem?_cons_succ, List.getElem?_cons_zero]; rfl) rfl ?hw92 (fun w1 => ?hy92) ?hsp92 ?hn92; (case hw92 => rfl); (case hy92 => (go_simp; (first | with_reducible rfl | (constructor <;> with_reducible rfl)))); (case hsp92 => (intro wq hSq; exact (top0_c (HCq.out wq hSq)).mono (fun e w' h => ⟨_, h.1, rfl, h.2⟩))); rintro _ rfl; (try simp only [Act.put, List.setIfInBounds_toArray, List.set_cons_zero, List.set_cons_succ]))
          (refine TD.val0 (v := ?v93) (by simp only [List.getElem?_toArray, List.getElem?_cons_succ, List.getElem?_cons_zero]; rfl) rfl ?hw93 (fun w1 => ?hy93) ?hn93; (case hw93 => rfl); (case hy93 => (go_simp; (try with_reducible rfl))); (try simp only [Act.put, List.setIfInBounds_toArray, List.set_cons_zero, List.set_cons_succ]))
          (refine TD.val0 (v := ?v94) (by simp only [List.getElem?_toArray, List.getElem?_cons_succ, List.getElem?_cons_zero]; rfl) rfl ?hw94 (fun w1 => ?hy94) ?hn94; (case hw94 => rfl); (case hy94 => (go_simp; (try with_reducible rfl))); (try simp only [Act.put, List.setIfInBounds_toArray, List.set_cons_zero, List.set_cons_succ]))
          (refine TD.val0 (v := ?v95) (by simp only [List.getElem?_toArray, List.getElem?_cons_succ, List.getElem?_cons_zero]; rfl) rfl ?hw95 (fun w1 => ?hy95) ?hn95; (case hw95 => rfl); (case hy95 => (go_simp; (try with_reducible rfl))); (try simp only [Act.put, List.setIfInBounds_toArray, List.set_cons_zero, List.set_cons_succ]))
          (refine TD.val0 (v := ?v96) (by simp only [List.getElem?_toArray, List.getElem?_cons_succ, List.getElem?_cons_zero]; rfl) rfl ?hw96 (fun w1 => ?hy96) ?hn96; (case hw96 => rfl); (case hy96 => (go_simp; (try with_reducible rfl))); (try simp only [Act.put, List.setIfInBounds_toArray, List.set_cons_zero, List.set_cons_succ]))
          (refine TD.allocB (by simp only [List.getElem?_toArray, List.getElem?_cons_succ, List.getElem?_cons_zero]; rfl) rfl ?hw97 rfl rfl alRk (fun p19 hp19 => ?hn97); (case hw97 => rfl); (try simp only [Act.put, List.setIfInBounds_toArray, List.set_cons_zero, List.set_cons_succ]))
          (refine TD.storeB (d := ?d98) (T := ?T98) (y := ?y98) (p := ?p98) (b := ?b98) (v := ?v98) (by simp only [List.getElem?_toArray, List.getElem?_cons_succ, List.getElem?_cons_zero]; rfl) rfl ?hw98 ?hd98 ?hop98 ?hev98 ?hx98 ?hb98 ?htag98 (fun w1 hb1 => ?hy98) ?hn98; (case hw98 => rfl); (case hd98 => rfl); (case hop98 => rfl); (case hev98 => (simp only [Act.eval, Array.getD_eq_getD_getElem?, List.getElem?_toArray, List.getElem?_cons_succ, List.getElem?_cons_zero, Option.getD_some]; (try rfl))); (case hx98 => (simp only [Act.eval, Array.getD_eq_getD_getElem?, List.getElem?_toArray, List.getElem?_cons_succ, List.getElem?_cons_zero, Option.getD_some]; (try rfl))); (case hb98 => first | exact Bx.set_same _ _ _ | (simp only [Bx.set_same]; rfl)); (case hy98 => (go_simp; (try with_reducible rfl))); (try simp only [Act.put, List.setIfInBounds_toArray, List.set_cons_zero, List.set_cons_succ]))
          (refine TD.val0 (v := ?v99) (by simp only [List.getElem?_toArray, List.getElem?_cons_succ, List.getElem?_cons_zero]; rfl) rfl ?hw99 (fun w1 => ?hy99) ?hn99; (case hw99 => rfl); (case hy99 => (go_simp; (try with_reducible rfl))); (try simp only [Act.put, List.setIfInBounds_toArray, List.set_cons_zero, List.set_cons_succ]))
          (refine TD.val0 (v := ?v100) (by simp only [List.getElem?_toArray, List.getElem?_cons_succ, List.getElem?_cons_zero]; rfl) rfl ?hw100 (fun w1 => ?hy100) ?hn100; (case hw100 => rfl); (case hy100 => (go_simp; (try with_reducible rfl))); (try simp only [Act.put, List.setIfInBounds_toArray, List.set_cons_zero, List.set_cons_succ]))
          refine TD.nil (fun w5 hr => ?_)
          have kp19 := hr.box p19 _ (by first | exact Bx.set_same _ _ _ | (simp only [Bx.set_same]; rfl)); dsimp only [Value.cells] at kp19; obtain ⟨gp19, kp19⟩ := kp19
          have q5 := hr.mod
          clear hr
          go_upto_region 33 with fail
          refine wp_gpass0 (T0 := fun _ => False) (K := fun _ _ => True) (κ := fun i => [0, 0, 0, 0, 6, 0, 0, 0, 6, 0, 0].getD i 0) (υ := fun i => [[], [], [], [], [], [], [], [], [], [], []].getD i []) [0, 1, 2, 3, 4, 5, 6, 7, 8, 9, 10] (by kernel_rfl) (by kernel_rfl) (Good.true).cl (trivial) (fun _ h => h.elim) ?_
          have gK := Good.true
          (refine TG.v0 (v := ?v101) (by simp only [List.getElem?_toArray, List.getElem?_cons_succ, List.getElem?_cons_zero]; rfl) rfl ?hw101 (fun w1 => ?hy101) ?hn101; (case hw101 => rfl); (case hy101 => (go_simp; (try with_reducible rfl))); (try simp only [Act.put, List.setIfInBounds_toArray, List.set_cons_zero, List.set_cons_succ]))
          (refine TG.v0 (v := ?v102) (by simp only [List.getElem?_toArray, List.getElem?_cons_succ, List.getElem?_cons_zero]; rfl) rfl ?hw102 (fun w1 => ?hy102) ?hn102; (case hw102 => rfl); (case hy102 => (go_simp; (try with_reducible rfl))); (try simp only [Act.put, List.setIfInBounds_toArray, List.set_cons_zero, List.set_cons_succ]))
          (refine TG.v0 (v := ?v103) (by simp only [List.getElem?_toArray, List.getElem?_cons_succ, List.getElem?_cons_zero]; rfl) rfl ?hw103 (fun w1 => ?hy103) ?hn103; (case hw103 => rfl); (case hy103 => (go_simp; (try with_reducible rfl))); (try simp only [Act.put, List.setIfInBounds_toArray, List.set_cons_zero, List.set_cons_succ]))
          (refine TG.v0 (v := ?v104) (by simp only [List.getElem?_toArray, List.getElem?_cons_succ, List.getElem?_cons_zero]; rfl) rfl ?hw104 (fun w1 => ?hy104) ?hn104; (case hw104 => rfl); (case hy104 => (go_simp; (try with_reducible rfl))); (try simp only [Act.put, List.setIfInBounds_toArray, List.set_cons_zero, List.set_cons_succ]))
          (refine TG.callN (f := ?f105) (args := ?r105) (fun v => v = .int .i64 0) gK (by simp only [List.getElem?_toArray, List.getElem?_cons_succ, List.getElem?_cons_zero]; rfl) rfl ?hw105 (fun w1 => ?hy105) (fun T wq kq ltq hSq ub => ?hsp105) ?hn105; (case hw105 => rfl); (case hy105 => (go_simp; (first | with_reducible rfl | (constructor <;> with_reducible rfl)))); (case hsp105 => (exact (lenH_c (HCq.out wq (q5.then0 hSq))).mono (fun e w' h => ⟨_, h.1, rfl, by rw [h.2]; exact Mod.refl _ _⟩))); rintro v105 hC; subst hC; (try simp only [Act.put, List.setIfInBounds_toArray, List.set_cons_zero, List.set_cons_succ]))
          (refine TG.v0 (v := ?v106) (by simp only [List.getElem?_toArray, List.getElem?_cons_succ, List.getElem?_cons_zero]; rfl) rfl ?hw106 (fun w1 => ?hy106) ?hn106; (case hw106 => rfl); (case hy106 => (go_simp; (try with_reducible rfl))); (try simp only [Act.put, List.setIfInBounds_toArray, List.set_cons_zero, List.set_cons_succ]))
          (refine TG.v0 (v := ?v107) (by simp only [List.getElem?_toArray, List.getElem?_cons_succ, List.getElem?_cons_zero]; rfl) rfl ?hw107 (fun w1 => ?hy107) ?hn107; (case hw107 => rfl); (case hy107 => (go_simp; (try with_reducible rfl))); (try simp only [Act.put, List.setIfInBounds_toArray, List.set_cons_zero, List.set_cons_succ]))
          (refine TG.v0 (v := ?v108) (by simp only [List.getElem?_toArray, List.getElem?_cons_succ, List.getElem?_cons_zero]; rfl) rfl ?hw108 (fun w1 => ?hy108) ?hn108; (case hw108 => rfl); (case hy108 => (go_simp; (try with_reducible rfl))); (try simp only [Act.put, List.setIfInBounds_toArray, List.set_cons_zero, List.set_cons_succ]))
          (refine TG.callN (f := ?f109) (args := ?r109) (fun v => v = .bool true) gK (by simp only [List.getElem?_toArray, List.getElem?_cons_succ, List.getElem?_cons_zero]; rfl) rfl ?hw109 (fun w1 => ?hy109) (fun T wq kq ltq hSq ub => ?hsp109) ?hn109; (case hw109 => rfl); (case hy109 => (go_simp; (first | with_reducible rfl | (constructor <;> with_reducible rfl)))); (case hsp109 => (exact (lives_c wq).mono (fun e w' h => ⟨_, h.1, rfl, h.2⟩))); rintro v109 hC; subst hC; (try simp only [Act.put, List.setIfInBounds_toArray, List.set_cons_zero, List.set_cons_succ]))
          (refine TG.v0 (v := ?v110) (by simp only [List.getElem?_toArray, List.getElem?_cons_succ, List.getElem?_cons_zero]; rfl) rfl ?hw110 (fun w1 => ?hy110) ?hn110; (case hw110 => rfl); (case hy110 => (go_simp; (try with_reducible rfl))); (try simp only [Act.put, List.setIfInBounds_toArray, List.set_cons_zero, List.set_cons_succ]))
          (refine TG.v0 (v := ?v111) (by simp only [List.getElem?_toArray, List.getElem?_cons_succ, List.getElem?_cons_zero]; rfl) rfl ?hw111 (fun w1 => ?hy111) ?hn111; (case hw111 => rfl); (case hy111 => (go_simp; (try with_reducible rfl))); (try simp only [Act.put, List.setIfInBounds_toArray, List.set_cons_zero, List.set_cons_succ]))
          refine TG.nil (fun w6 ⟨TR, hr⟩ => ?_)
          clear gK
          have mF := HC0.out.2.then0 (q5.then0 hr.mod)
          clear hr
          go_wp2_with fail
          go_ret
          exact ⟨rfl, mF⟩
        · obtain ⟨m, hmE⟩ : ∃ m, E.length = m + 1 := ⟨E.length - 1, by have := List.length_pos_iff.2 hE; omega⟩
          obtain ⟨g, o, rfl⟩ := HE.out.some_ hE
          have hcv := HE.out.cap
          rw [hmE] at hcv hil
          obtain ⟨x0, hx0⟩ : ∃ x0, E[0]? = some x0 := ⟨_, List.getElem?_eq_getElem (by omega)⟩
          obtain ⟨z0, hz0⟩ : ∃ z0, E[m]? = some z0 := ⟨_, List.getElem?_eq_getElem (by omega)⟩
          have hhead : E.head? = some x0 := by rw [List.head?_eq_getElem?]; exact hx0
          have hlast : E.getLast? = some z0 := by rw [List.getLast?_eq_getElem?, hmE]; exact hz0
          obtain ⟨k, hk1, hk2, hk3⟩ := HE.out.mem x0 (List.mem_of_getElem? hx0)
          obtain ⟨kz, hkz1, hkz2, hkz3⟩ := HE.out.mem z0 (List.mem_of_getElem? hz0)
          obtain ⟨xr, xi⟩ := x0
          obtain ⟨zr, zi⟩ := z0
          dsimp only at hk2 hk3 hkz2 hkz3
          subst hk3
          subst hkz3
          have hki : (idn k).toInt = (k : Int) := idn_int (by omega)
          have hkzi : (idn kz).toInt = (kz : Int) := idn_int (by omega)
          obtain ⟨g', o', CC, U, fr, hav, kI, hea, _⟩ := HE.out.at_.block (i := 0) (x := idn k) (by rw [List.getElem?_map, hx0]; rfl)
          cases hav
          obtain ⟨g', o', CC', U', fr', hav, kI', heb, _⟩ := HE.out.at_.block (i := m) (x := idn kz) (by rw [List.getElem?_map, hz0]; rfl)
          cases hav
          rw [kI] at kI'
          cases kI'
          have ca : CC[o]? = some (.int .i64 (k : Int)) := by
            have h0 := cellC hea (j := 0) (v := .int .i64 (idn k).toInt) rfl
            rw [hki] at h0
            simpa using h0
          have cz : CC[o + m]? = some (.int .i64 (kz : Int)) := by
            have h0 := cellC heb (j := 0) (v := .int .i64 (idn kz).toInt) rfl
            rw [hkzi] at h0
            simpa using h0
          obtain ⟨gr, orr, CR, UR, frr, har, kR0, hra, hrla⟩ := HL.out.1.block hk2
          obtain ⟨gr', orr', CR', UR', frr', har', kR', hrb, hrlb⟩ := HL.out.1.block hkz2
          rw [har] at har'
          cases har'
          rw [kR0] at kR'
          cases kR'
          subst har
          have kl := HE.out.m.at0 kR0
          obtain ⟨a1, c1, hs1, hd1, hc1, hf1, he1⟩ := slD (g := g) (o := o) (n := m + 1) (cv := cv) (by omega) hcv
          rw [Nat.add_sub_cancel] at hs1 hc1
          have hs2 : ∀ w2, (Instr.sliceAt 40 (.slice (some ⟨g, o, none⟩) (m + 1) cv) none (some (.int .i64 (m : Int))) none).run Try.prog w2 = .ok (.slice (some ⟨g, o, none⟩) m cv) w2 := fun w2 => sl_take intT (by omega) w2
          have hwm : IntKind.i64.wrap (((m + 1 : Nat) : Int) - 1) = (m : Int) := by
            rw [IntKind.wrap_i64]
            omega
          have hwm2 : IntKind.i64.wrap (m : Int) = (m : Int) := by
            rw [IntKind.wrap_i64]
            omega
          have htop : ∀ wq, Mod (fun _ => False) wr wq → Calls Try.prog 22 #[ptrV h] wq fun e w' => e = .returned (.tuple #[.agg (rkc xr), .int .i64 (k : Int), .bool true]) ∧ Mod (fun _ => False) wq w' := fun wq hq => by
            obtain ⟨C, hA, hp, _⟩ := HE.out.hA
            have hh := topS_c ((HAt.good h C).cl T wr wq hA (hq.mono (fun _ _ e => e.elim))) hp HE.out.srt
            rw [hhead] at hh
            rw [← hki]
            exact hh
          have hbot : ∀ wq, Mod (fun _ => False) wr wq → Calls Try.prog 23 #[ptrV h] wq fun e w' => e = .returned (.tuple #[.agg (rkc zr), .int .i64 (kz : Int), .bool true]) ∧ Mod (fun _ => False) wq w' := fun wq hq => by
            obtain ⟨C, hA, hp, _⟩ := HE.out.hA
            have hh := botS_c ((HAt.good h C).cl T wr wq hA (hq.mono (fun _ _ e => e.elim))) hp HE.out.srt
            rw [hlast] at hh
            rw [← hkzi]
            exact hh
          have HTB := Lib.hid (And.intro htop hbot)
          have HKX := Lib.hid (And.intro hki hx0)
          have HKZ := Lib.hid (And.intro hkzi hz0)
          have HSL := Lib.hid (And.intro hd1 (And.intro hf1 (And.intro he1 hc1)))
          have hlm : ((m : Int) + 1) > 0 := by omega
          have dr1 : orr + k * 2 + 2 ≤ CR.size := by omega
          have dr2 : orr + kz * 2 + 2 ≤ CR.size := by omega
          rw [hmE]
          clear hE hcv hx0 hz0 hhead hlast hk2 hkz2 hki hkzi hea heb kR0 hrla hrlb hd1 hf1 he1 htop hbot
          have HKL := Lib.hid (And.intro kl kI)
          go_upto_region 19 with fail
          have Lkl := lt_size kl
          have LkI := lt_size kI
          refine wp_pass0 (C := fun _ _ v => v = .tuple #[.agg (rkc xr), .int .i64 (k : Int), .bool true]) (κ := fun i => [0, 2, 0, 0, 0, 0, 3, 4, 0, 0].getD i 0) [0, 1, 2, 3, 4, 5, 6, 7, 8, 9] (by kernel_rfl) (by kernel_rfl) (fun _ _ d _ _ h => by cases d <;> exact h) ?_
          (refine TD.val0 (v := ?v112) (by simp only [List.getElem?_toArray, List.getElem?_cons_succ, List.getElem?_cons_zero]; rfl) rfl ?hw112 (fun w1 => ?hy112) ?hn112; (case hw112 => rfl); (case hy112 => (go_simp; (try with_reducible rfl))); (try simp only [Act.put, List.setIfInBounds_toArray, List.set_cons_zero, List.set_cons_succ]))
          (refine TD.call (f := ?f113) (args := ?r113) (Mod.refl _ _) (by simp only [List.getElem?_toArray, List.getElem?_cons_succ, List.getElem?_cons_zero]; rfl) rfl ?hw113 (fun w1 => ?hy113) ?hsp113 ?hn113; (case hw113 => rfl); (case hy113 => (go_simp; (first | with_reducible rfl | (constructor <;> with_reducible rfl)))); (case hsp113 => (intro wq hSq; have klq := hSq.at kl (fun h => h); have kIq := hSq.at kI (fun h => h); exact (HTB.out.1 wq hSq).mono (fun e w' h => ⟨_, h.1, rfl, h.2⟩))); rintro _ rfl; (try simp only [Act.put, List.setIfInBounds_toArray, List.set_cons_zero, List.set_cons_succ]))
          (refine TD.val0 (v := ?v114) (by simp only [List.getElem?_toArray, List.getElem?_cons_succ, List.getElem?_cons_zero]; rfl) rfl ?hw114 (fun w1 => ?hy114) ?hn114; (case hw114 => rfl); (case hy114 => (go_simp; (try with_reducible rfl))); (try simp only [Act.put, List.setIfInBounds_toArray, List.set_cons_zero, List.set_cons_succ]))
          (refine TD.val0 (v := ?v115) (by simp only [List.getElem?_toArray, List.getElem?_cons_succ, List.getElem?_cons_zero]; rfl) rfl ?hw115 (fun w1 => ?hy115) ?hn115; (case hw115 => rfl); (case hy115 => (go_simp; (try with_reducible rfl))); (try simp only [Act.put, List.setIfInBounds_toArray, List.set_cons_zero, List.set_cons_succ]))
          (refine TD.val0 (v := ?v116) (by simp only [List.getElem?_toArray, List.getElem?_cons_succ, List.getElem?_cons_zero]; rfl) rfl ?hw116 (fun w1 => ?hy116) ?hn116; (case hw116 => rfl); (case hy116 => (go_simp; (try with_reducible rfl))); (try simp only [Act.put, List.setIfInBounds_toArray, List.set_cons_zero, List.set_cons_succ]))
          (refine TD.val0 (v := ?v117) (by simp only [List.getElem?_toArray, List.getElem?_cons_succ, List.getElem?_cons_zero]; rfl) rfl ?hw117 (fun w1 => ?hy117) ?hn117; (case hw117 => rfl); (case hy117 => (go_simp; (try with_reducible rfl))); (try simp only [Act.put, List.setIfInBounds_toArray, List.set_cons_zero, List.set_cons_succ]))
          (refine TD.allocB (by simp only [List.getElem?_toArray, List.getElem?_cons_succ, List.getElem?_cons_zero]; rfl) rfl ?hw118 rfl rfl alRk (fun p12 hp12 => ?hn118); (case hw118 => rfl); (try simp only [Act.put, List.setIfInBounds_toArray, List.set_cons_zero, List.set_cons_succ]))
          (refine TD.storeB (d := ?d119) (T := ?T119) (y := ?y119) (p := ?p119) (b := ?b119) (v := ?v119) (by simp only [List.getElem?_toArray, List.getElem?_cons_succ, List.getElem?_cons_zero]; rfl) rfl ?hw119 ?hd119 ?hop119 ?hev119 ?hx119 ?hb119 ?htag119 (fun w1 hb1 => ?hy119) ?hn119; (case hw119 => rfl); (case hd119 => rfl); (case hop119 => rfl); (case hev119 => (simp only [Act.eval, Array.getD_eq_getD_getElem?, List.getElem?_toArray, List.getElem?_cons_succ, List.getElem?_cons_zero, Option.getD_some]; (try rfl))); (case hx119 => (simp only [Act.eval, Array.getD_eq_getD_getElem?, List.getElem?_toArray, List.getElem?_cons_succ, List.getElem?_cons_zero, Option.getD_some]; (try rfl))); (case hb119 => first | exact Bx.set_same _ _ _ | (simp only [Bx.set_same]; rfl)); (case hy119 => (go_simp; (try with_reducible rfl))); (try simp only [Act.put, List.setIfInBounds_toArray, List.set_cons_zero, List.set_cons_succ]))
          (refine TD.val0 (v := ?v120) (by simp only [List.getElem?_toArray, List.getElem?_cons_succ, List.getElem?_cons_zero]; rfl) rfl ?hw120 (fun w1 => ?hy120) ?hn120; (case hw120 => rfl); (case hy120 => (go_simp; (try with_reducible rfl))); (try simp only [Act.put, List.setIfInBounds_toArray, List.set_cons_zero, List.set_cons_succ]))
          (refine TD.val0 (v := ?v121) (by simp only [List.getElem?_toArray, List.getElem?_cons_succ, List.getElem?_cons_zero]; rfl) rfl ?hw121 (fun w1 => ?hy121) ?hn121; (case hw121 => rfl); (case hy121 => (go_simp; (try with_reducible rfl))); (try simp only [Act.put, List.setIfInBounds_toArray, List.set_cons_zero, List.set_cons_succ]))
          refine TD.nil (fun w4 hr => ?_)
          have kl := hr.mod.at kl (fun h => h)
          have kI := hr.mod.at kI (fun h => h)
          have kp12 := hr.box p12 _ (by first | exact Bx.set_same _ _ _ | (simp only [Bx.set_same]; rfl)); dsimp only [Value.cells] at kp12; obtain ⟨gp12, kp12⟩ := kp12
          have q4 := hr.mod
          have hT12 : ¬ T p12 := fun ht => by
            have h1 := (HT0.out p12 ht).2
            have h2 := HE.out.sz
            omega
          clear hr
          by_cases hb : ∃ b, ends[i]? = some b ∧ b = true
          · obtain ⟨b, hb1, rfl⟩ := hb
            obtain ⟨ge, oe, CE, UE, fre, rfl, kE0, hee, _⟩ := HL.out.2.block hb1
            have kE := (HE.out.m.then0 q4).at0 kE0
            have cE : CE[oe + i]? = some (.bool true) := by
              have h0 := cellC hee (j := 0) (v := .bool true) rfl
              simpa using h0
            have hie : i < ends.length := (List.getElem?_eq_some_iff.1 hb1).1
            clear hb1 kE0 hee
            go_upto_region 23 with fail
            have Lkl := lt_size kl
            have LkI := lt_size kI
            have Lkp12 := lt_size kp12
            refine wp_pass0 (C := fun _ _ v => v = .tuple #[.agg (rkc zr), .int .i64 (kz : Int), .bool true]) (κ := fun i => [0, 2, 0, 0, 0, 0, 5, 0, 0].getD i 0) [0, 1, 2, 3, 4, 5, 6, 7, 8] (by kernel_rfl) (by kernel_rfl) (fun _ _ d _ _ h => by cases d <;> exact h) ?_
            (refine TD.val0 (v := ?v122) (by simp only [List.getElem?_toArray, List.getElem?_cons_succ, List.getElem?_cons_zero]; rfl) rfl ?hw122 (fun w1 => ?hy122) ?hn122; (case hw122 => rfl); (case hy122 => (go_simp; (try with_reducible rfl))); (try simp only [Act.put, List.setIfInBounds_toArray, List.set_cons_zero, List.set_cons_succ]))
            (refine TD.call (f := ?f123) (args := ?r123) (Mod.refl _ _) (by simp only [List.getElem?_toArray, List.getElem?_cons_succ, List.getElem?_cons_zero]; rfl) rfl ?hw123 (fun w1 => ?hy123) ?hsp123 ?hn123; (case hw123 => rfl); (case hy123 => (go_simp; (first | with_reducible rfl | (constructor <;> with_reducible rfl)))); (case hsp123 => (intro wq hSq; have klq := hSq.at kl (fun h => h); have kIq := hSq.at kI (fun h => h); have kp12q := hSq.at kp12 (fun h => h); exact (HTB.out.2 wq (q4.then0 hSq)).mono (fun e w' h => ⟨_, h.1, rfl, h.2⟩))); rintro _ rfl; (try simp only [Act.put, List.setIfInBounds_toArray, List.set_cons_zero, List.set_cons_succ]))
            (refine TD.val0 (v := ?v124) (by simp only [List.getElem?_toArray, List.getElem?_cons_succ, List.getElem?_cons_zero]; rfl) rfl ?hw124 (fun w1 => ?hy124) ?hn124; (case hw124 => rfl); (case hy124 => (go_simp; (try with_reducible rfl))); (try simp only [Act.put, List.setIfInBounds_toArray, List.set_cons_zero, List.set_cons_succ]))
            (refine TD.val0 (v := ?v125) (by simp only [List.getElem?_toArray, List.getElem?_cons_succ, List.getElem?_cons_zero]; rfl) rfl ?hw125 (fun w1 => ?hy125) ?hn125; (case hw125 => rfl); (case hy125 => (go_simp; (try with_reducible rfl))); (try simp only [Act.put, List.setIfInBounds_toArray, List.set_cons_zero, List.set_cons_succ]))
            (refine TD.val0 (v := ?v126) (by simp only [List.getElem?_toArray, List.getElem?_cons_succ, List.getElem?_cons_zero]; rfl) rfl ?hw126 (fun w1 => ?hy126) ?hn126; (case hw126 => rfl); (case hy126 => (go_simp; (try with_reducible rfl))); (try simp only [Act.put, List.setIfInBounds_toArray, List.set_cons_zero, List.set_cons_succ]))
            (refine TD.val0 (v := ?v127) (by simp only [List.getElem?_toArray, List.getElem?_cons_succ, List.getElem?_cons_zero]; rfl) rfl ?hw127 (fun w1 => ?hy127) ?hn127; (case hw127 => rfl); (case hy127 => (go_simp; (try with_reducible rfl))); (try simp only [Act.put, List.setIfInBounds_toArray, List.set_cons_zero, List.set_cons_succ]))
            refine TD.eff (by simp only [List.getElem?_toArray, List.getElem?_cons_succ, List.getElem?_cons_zero]; rfl) rfl (fun w5 hr => ?_)
            have kl := hr.mod.at kl (fun h => h)
            have kI := hr.mod.at kI (fun h => h)
            have kp12 := hr.mod.at kp12 (fun h => h)
            have q5 := q4.then0 hr.mod
            clear hr
            have h12 : p12 ≠ gr ∧ p12 ≠ g := ⟨fun e => by have := lt_size HKL.out.1; omega, fun e => by have := lt_size HKL.out.2; omega⟩
            (refine eff_store (X := ?X129) (Y := ?Y129) (w' := ?w129) (by simp only [List.getElem?_toArray, List.getElem?_cons_succ, List.getElem?_cons_zero]; rfl) ?hw129 rfl ?hx129 ?hz129 ?hy129 ?hn129; (case hw129 => rfl); (case hx129 => (simp only [Act.eval, Array.getD_eq_getD_getElem?, List.getElem?_toArray, List.getElem?_cons_succ, List.getElem?_cons_zero, Option.getD_some]; (try rfl))); (case hz129 => (simp only [Act.eval, Array.getD_eq_getD_getElem?, List.getElem?_toArray, List.getElem?_cons_succ, List.getElem?_cons_zero, Option.getD_some]; (try rfl))); (case hy129 => (go_simp; (try with_reducible rfl))))
            (first | refine TE.mid_set kp12 (fun wn kp12 mS => ?_) | refine TE.mid_setCell kp12 (fun wn kp12 mS => ?_))
            (try simp only [Array.setIfInBounds, List.setIfInBounds_toArray, List.set_cons_zero, List.set_cons_succ] at kp12)
            have q6 := q5.thenB mS (.inl gp12)
            replace kl := mS.at_ne kl (Ne.symm h12.1)
            replace kI := mS.at_ne kI (Ne.symm h12.2)
            clear mS
            (refine TE.val0 (v := ?v130) (by simp only [List.getElem?_toArray, List.getElem?_cons_succ, List.getElem?_cons_zero]; rfl) ?hw130 (fun w1 => ?hy130) ?hn130; (case hw130 => rfl); (case hy130 => (go_simp; (try with_reducible rfl))); (try simp only [Act.put, List.setIfInBounds_toArray, List.set_cons_zero, List.set_cons_succ]))
            (refine TE.val0 (v := ?v131) (by simp only [List.getElem?_toArray, List.getElem?_cons_succ, List.getElem?_cons_zero]; rfl) ?hw131 (fun w1 => ?hy131) ?hn131; (case hw131 => rfl); (case hy131 => (go_simp; (try with_reducible rfl))); (try simp only [Act.put, List.setIfInBounds_toArray, List.set_cons_zero, List.set_cons_succ]))
            refine TE.nil ?_
            have hE2 : E.eraseIdx m = E.take m := by
              rw [List.eraseIdx_eq_take_drop_succ, List.drop_of_length_le (by omega), List.append_nil]
            obtain ⟨E', hE'⟩ : ∃ E', E.eraseIdx m = E' := ⟨_, rfl⟩
            have HJL : Hid (E'.length = m) := Lib.hid (by rw [← hE', hE2, List.length_take]; omega)
            have HJ : Hid (E[m]? = some ⟨zr, idn kz⟩ ∧ E.eraseIdx m = E') := Lib.hid ⟨HKZ.out.2, hE'⟩
            have HQ := Lib.hid (HE.out.mod0 q6)
            have HS : Hid (SlAt ic 1 wn (some ⟨g, o, none⟩) (E'.map Nd.id) ∧ (∀ b o', (some (⟨g, o, none⟩ : Addr)) = some ⟨b, o', none⟩ → wL.heap.size ≤ b) ∧ (∃ b o', (some (⟨g, o, none⟩ : Addr)) = some ⟨b, o', none⟩) ∧ E'.length ≤ cv) := Lib.hid ⟨by rw [← hE', hE2, List.map_take]; exact HQ.out.at_.take m, HE.out.far, ⟨_, _, rfl⟩, by rw [HJL.out]; have := HE.out.cap; omega⟩
            have e1 := hrb
            have d1 := dr2
            have HK := Lib.hid (And.intro HKZ.out.1 trivial)
            clear kE cE hE2 hE' hra hrb dr1 dr2 q4 q5 q6 HE HTB HKX HKZ HSL h12 hs1 ca
            go_upto_region 26 with fail
            have Lkl := lt_size kl
            have Lkp12 := lt_size kp12
            refine wp_pass (C := fun _ _ _ => False) (κ := fun i => [0, 0, 0, 0, 0, 0, 0, 0, 1, 0, 0, 0, 1, 0, 0].getD i 0) [0, 1, 2, 3, 4, 5, 6, 7, 8, 9, 10, 11, 12, 13, 14] (by kernel_rfl) (by kernel_rfl) (fun _ _ d _ _ h => by cases d <;> exact h) ?_
            (refine TD.val0 (v := ?v132) (by simp only [List.getElem?_toArray, List.getElem?_cons_succ, List.getElem?_cons_zero]; rfl) rfl ?hw132 (fun w1 => ?hy132) ?hn132; (case hw132 => rfl); (case hy132 => (go_simp; (try with_reducible rfl))); (try simp only [Act.put, List.setIfInBounds_toArray, List.set_cons_zero, List.set_cons_succ]))
            (refine TD.val0 (v := ?v133) (by simp only [List.getElem?_toArray, List.getElem?_cons_succ, List.getElem?_cons_zero]; rfl) rfl ?hw133 (fun w1 => ?hy133) ?hn133; (case hw133 => rfl); (case hy133 => (go_simp; (try with_reducible rfl))); (try simp only [Act.put, List.setIfInBounds_toArray, List.set_cons_zero, List.set_cons_succ]))
            (refine TD.val0 (v := ?v134) (by simp only [List.getElem?_toArray, List.getElem?_cons_succ, List.getElem?_cons_zero]; rfl) rfl ?hw134 (fun w1 => ?hy134) ?hn134; (case hw134 => rfl); (case hy134 => (go_simp; (try with_reducible rfl))); (try simp only [Act.put, List.setIfInBounds_toArray, List.set_cons_zero, List.set_cons_succ]))
            (refine TD.val0 (v := ?v135) (by simp only [List.getElem?_toArray, List.getElem?_cons_succ, List.getElem?_cons_zero]; rfl) rfl ?hw135 (fun w1 => ?hy135) ?hn135; (case hw135 => rfl); (case hy135 => (go_simp; (try with_reducible rfl))); (try simp only [Act.put, List.setIfInBounds_toArray, List.set_cons_zero, List.set_cons_succ]))
            (refine TD.val0 (v := ?v136) (by simp only [List.getElem?_toArray, List.getElem?_cons_succ, List.getElem?_cons_zero]; rfl) rfl ?hw136 (fun w1 => ?hy136) ?hn136; (case hw136 => rfl); (case hy136 => (go_simp; (try with_reducible rfl))); (try simp only [Act.put, List.setIfInBounds_toArray, List.set_cons_zero, List.set_cons_succ]))
            (refine TD.val0 (v := ?v137) (by simp only [List.getElem?_toArray, List.getElem?_cons_succ, List.getElem?_cons_zero]; rfl) rfl ?hw137 (fun w1 => ?hy137) ?hn137; (case hw137 => rfl); (case hy137 => (go_simp; (try with_reducible rfl))); (try simp only [Act.put, List.setIfInBounds_toArray, List.set_cons_zero, List.set_cons_succ]))
            (refine TD.val0 (v := ?v138) (by simp only [List.getElem?_toArray, List.getElem?_cons_succ, List.getElem?_cons_zero]; rfl) rfl ?hw138 (fun w1 => ?hy138) ?hn138; (case hw138 => rfl); (case hy138 => (go_simp; (try with_reducible rfl))); (try simp only [Act.put, List.setIfInBounds_toArray, List.set_cons_zero, List.set_cons_succ]))
            (refine TD.val0 (v := ?v139) (by simp only [List.getElem?_toArray, List.getElem?_cons_succ, List.getElem?_cons_zero]; rfl) rfl ?hw139 (fun w1 => ?hy139) ?hn139; (case hw139 => rfl); (case hy139 => (go_simp; (try with_reducible rfl))); (try simp only [Act.put, List.setIfInBounds_toArray, List.set_cons_zero, List.set_cons_succ]))
            (refine TD.load (v := ?v140) (p := ?p140) (Mod.refl _ _) (by simp only [List.getElem?_toArray, List.getElem?_cons_succ, List.getElem?_cons_zero]; rfl) rfl ?hw140 rfl ?hx140 (fun wq hSq => ?hy140) ?hn140; (case hw140 => rfl); (case hx140 => (simp only [Act.eval, Array.getD_eq_getD_getElem?, List.getElem?_toArray, List.getElem?_cons_succ, List.getElem?_cons_zero, Option.getD_some]; (try rfl))); (case hy140 => (have klq := hSq.at kl (fun h => h); have kp12q := hSq.at kp12 (fun h => h); go_simp; (try with_reducible rfl))); (try simp only [Act.put, List.setIfInBounds_toArray, List.set_cons_zero, List.set_cons_succ]))
            (refine TD.val0 (v := ?v141) (by simp only [List.getElem?_toArray, List.getElem?_cons_succ, List.getElem?_cons_zero]; rfl) rfl ?hw141 (fun w1 => ?hy141) ?hn141; (case hw141 => rfl); (case hy141 => (go_simp; (try with_reducible rfl))); (try simp only [Act.put, List.setIfInBounds_toArray, List.set_cons_zero, List.set_cons_succ]))
            (refine TD.val0 (v := ?v142) (by simp only [List.getElem?_toArray, List.getElem?_cons_succ, List.getElem?_cons_zero]; rfl) rfl ?hw142 (fun w1 => ?hy142) ?hn142; (case hw142 => rfl); (case hy142 => (go_simp; (try with_reducible rfl))); (try simp only [Act.put, List.setIfInBounds_toArray, List.set_cons_zero, List.set_cons_succ]))
            (refine TD.val0 (v := ?v143) (by simp only [List.getElem?_toArray, List.getElem?_cons_succ, List.getElem?_cons_zero]; rfl) rfl ?hw143 (fun w1 => ?hy143) ?hn143; (case hw143 => rfl); (case hy143 => (go_simp; (try with_reducible rfl))); (try simp only [Act.put, List.setIfInBounds_toArray, List.set_cons_zero, List.set_cons_succ]))
            (refine TD.load (v := ?v144) (p := ?p144) (Mod.refl _ _) (by simp only [List.getElem?_toArray, List.getElem?_cons_succ, List.getElem?_cons_zero]; rfl) rfl ?hw144 rfl ?hx144 (fun wq hSq => ?hy144) ?hn144; (case hw144 => rfl); (case hx144 => (simp only [Act.eval, Array.getD_eq_getD_getElem?, List.getElem?_toArray, List.getElem?_cons_succ, List.getElem?_cons_zero, Option.getD_some]; (try rfl))); (case hy144 => (have klq := hSq.at kl (fun h => h); have kp12q := hSq.at kp12 (fun h => h); go_simp; (try with_reducible rfl))); (try simp only [Act.put, List.setIfInBounds_toArray, List.set_cons_zero, List.set_cons_succ]))
            (refine TD.val0 (v := ?v145) (by simp only [List.getElem?_toArray, List.getElem?_cons_succ, List.getElem?_cons_zero]; rfl) rfl ?hw145 (fun w1 => ?hy145) ?hn145; (case hw145 => rfl); (case hy145 => (simp only [execOp, Act.eval, Array.getD_eq_getD_getElem?, List.getElem?_toArray, List.getElem?_cons_succ, List.getElem?_cons_zero, Option.getD_some, e1,rkc_ext]; go_simp; (try with_reducible rfl))); (try simp only [Act.put, List.setIfInBounds_toArray, List.set_cons_zero, List.set_cons_succ]))
            (refine TD.val0 (v := ?v146) (by simp only [List.getElem?_toArray, List.getElem?_cons_succ, List.getElem?_cons_zero]; rfl) rfl ?hw146 (fun w1 => ?hy146) ?hn146; (case hw146 => rfl); (case hy146 => (go_simp; (try with_reducible rfl))); (try simp only [Act.put, List.setIfInBounds_toArray, List.set_cons_zero, List.set_cons_succ]))
            refine TD.nil (fun w5 hr => ?_)
            have kl := hr.mod.at kl (fun h => h)
            have kp12 := hr.mod.at kp12 (fun h => h)
            have HQ2 := Lib.hid (HQ.out.mod0 hr.mod)
            have HS2 := Lib.hid (And.intro (HS.out.1.mod0 hr.mod) HS.out.2)
            clear hr kl e1 d1 HQ HS
            obtain ⟨C, hA, hp, hC⟩ := HQ2.out.hA
            have HP := Lib.hid (And.intro hp (And.intro hC hA.ids))
            clear hp hC
            go_upto_region 28 with fail
            have Lkp12 := lt_size kp12
            refine wp_gpass0 (T0 := T) (K := HTL T h C) (κ := fun i => [0, 0, 6, 0, 0, 0, 3, 4, 0].getD i 0) (υ := fun i => [[], [], [], [], [], [], [], [], []].getD i []) [0, 1, 2, 3, 4, 5, 6, 7, 8] (by kernel_rfl) (by kernel_rfl) (goodHT T h C).cl (⟨hA, fun _ h => h⟩) (fun i hi => Nat.lt_of_lt_of_le (HT0.out i hi).2 HQ2.out.sz) ?_
            have gK := goodHT T h C
            (refine TG.v0 (v := ?v147) (by simp only [List.getElem?_toArray, List.getElem?_cons_succ, List.getElem?_cons_zero]; rfl) rfl ?hw147 (fun w1 => ?hy147) ?hn147; (case hw147 => rfl); (case hy147 => (go_simp; (try with_reducible rfl))); (try simp only [Act.put, List.setIfInBounds_toArray, List.set_cons_zero, List.set_cons_succ]))
            (refine TG.v0 (v := ?v148) (by simp only [List.getElem?_toArray, List.getElem?_cons_succ, List.getElem?_cons_zero]; rfl) rfl ?hw148 (fun w1 => ?hy148) ?hn148; (case hw148 => rfl); (case hy148 => (go_simp; (try with_reducible rfl))); (try simp only [Act.put, List.setIfInBounds_toArray, List.set_cons_zero, List.set_cons_succ]))
            (refine TG.callK (f := ?f149) (args := ?r149) (fun v T' w => v = .tuple #[.agg (rkc zr), .int .i64 0] ∧ HTL T h (C.eraseP (fun y => y.id == idn kz)) T' w) (fun v => (Good.pure (v = .tuple #[.agg (rkc zr), .int .i64 0])).and (goodHT T h (C.eraseP (fun y => y.id == idn kz)))) (by simp only [List.getElem?_toArray, List.getElem?_cons_succ, List.getElem?_cons_zero]; rfl) rfl ?hw149 (fun w1 => ?hy149) (fun T wq kq ltq hSq ub => ?hsp149) ?hn149; (case hw149 => rfl); (case hy149 => (go_simp; (first | with_reducible rfl | (constructor <;> with_reducible rfl)))); (case hsp149 => (have kp12q := hSq.at kp12 (by intro hT; first | exact hT | exact absurd hT (by assumption) | (simp only at hT; omega)); have hh := HTL.drop kq ltq (idn kz) HP.out.2.1 (x := ⟨zr, idn kz⟩) (HP.out.1.mem_iff.1 (List.mem_of_getElem? HJ.out.1)) rfl; rw [HK.out.1] at hh; exact hh)); rintro v149 ⟨wI, TI, hI⟩; replace gK := (fun v => (Good.pure (v = .tuple #[.agg (rkc zr), .int .i64 0])).and (goodHT T h (C.eraseP (fun y => y.id == idn kz)))) v149; obtain ⟨rfl, _⟩ := hI.k; (try clear hI TI wI); (try simp only [Act.put, List.setIfInBounds_toArray, List.set_cons_zero, List.set_cons_succ]))
            (refine TG.v0 (v := ?v150) (by simp only [List.getElem?_toArray, List.getElem?_cons_succ, List.getElem?_cons_zero]; rfl) rfl ?hw150 (fun w1 => ?hy150) ?hn150; (case hw150 => rfl); (case hy150 => (go_simp; (try with_reducible rfl))); (try simp only [Act.put, List.setIfInBounds_toArray, List.set_cons_zero, List.set_cons_succ]))
            (refine TG.v0 (v := ?v151) (by simp only [List.getElem?_toArray, List.getElem?_cons_succ, List.getElem?_cons_zero]; rfl) rfl ?hw151 (fun w1 => ?hy151) ?hn151; (case hw151 => rfl); (case hy151 => (go_simp; (try with_reducible rfl))); (try simp only [Act.put, List.setIfInBounds_toArray, List.set_cons_zero, List.set_cons_succ]))
            (refine TG.v0 (v := ?v152) (by simp only [List.getElem?_toArray, List.getElem?_cons_succ, List.getElem?_cons_zero]; rfl) rfl ?hw152 (fun w1 => ?hy152) ?hn152; (case hw152 => rfl); (case hy152 => (go_simp; (try with_reducible rfl))); (try simp only [Act.put, List.setIfInBounds_toArray, List.set_cons_zero, List.set_cons_succ]))
            (refine TG.allocB (by simp only [List.getElem?_toArray, List.getElem?_cons_succ, List.getElem?_cons_zero]; rfl) rfl ?hw153 rfl rfl alRk (fun p17 hp17 _ => ?hn153); (case hw153 => rfl); (try simp only [Act.put, List.setIfInBounds_toArray, List.set_cons_zero, List.set_cons_succ]))
            (refine TG.storeB (d := ?d154) (T := ?T154) (y := ?y154) (p := ?p154) (b := ?b154) (v := ?v154) (by simp only [List.getElem?_toArray, List.getElem?_cons_succ, List.getElem?_cons_zero]; rfl) rfl ?hw154 ?hd154 ?hop154 ?hev154 ?hx154 ?hb154 ?htag154 (fun w1 hb1 => ?hy154) ?hn154; (case hw154 => rfl); (case hd154 => rfl); (case hop154 => rfl); (case hev154 => (simp only [Act.eval, Array.getD_eq_getD_getElem?, List.getElem?_toArray, List.getElem?_cons_succ, List.getElem?_cons_zero, Option.getD_some]; (try rfl))); (case hx154 => (simp only [Act.eval, Array.getD_eq_getD_getElem?, List.getElem?_toArray, List.getElem?_cons_succ, List.getElem?_cons_zero, Option.getD_some]; (try rfl))); (case hb154 => first | exact Bx.set_same _ _ _ | (simp only [Bx.set_same]; rfl)); (case htag154 => rfl); (case hy154 => (go_simp; (try with_reducible rfl))); (try simp only [Act.put, List.setIfInBounds_toArray, List.set_cons_zero, List.set_cons_succ]))
            (refine TG.v0 (v := ?v155) (by simp only [List.getElem?_toArray, List.getElem?_cons_succ, List.getElem?_cons_zero]; rfl) rfl ?hw155 (fun w1 => ?hy155) ?hn155; (case hw155 => rfl); (case hy155 => (go_simp; (try with_reducible rfl))); (try simp only [Act.put, List.setIfInBounds_toArray, List.set_cons_zero, List.set_cons_succ]))
            refine TG.nil (fun w6 ⟨TR, hr⟩ => ?_)
            have kp12 := hr.mod.at kp12 (by intro hT; first | exact hT | exact absurd hT (by assumption) | (simp only at hT; omega))
            have kp17 := hr.box p17 _ (by first | exact Bx.set_same _ _ _ | (simp only [Bx.set_same]; rfl)); dsimp only [Value.cells] at kp17; obtain ⟨gp17, nTp17, kp17⟩ := kp17
            clear gK
            have hA6 : HAt h (C.eraseP (fun y => y.id == idn kz)) T w6 := hr.k.2.1
            have hm6 := hr.mod
            have HN : Hid (EI w wL h l T E' (some ⟨g, o, none⟩) cv w6) := Lib.hid (by
              refine ⟨⟨_, hA6, ?_, Nat.le_trans List.length_eraseP_le HP.out.2.1⟩, ?_, HS2.out.1.mod hm6 (fun b o e ht => ?_), HS2.out.2.1, fun _ => HS2.out.2.2.1, HS2.out.2.2.2, HQ2.out.m.then hm6 (fun i hi e => ?_), Nat.le_trans HQ2.out.sz hm6.size, fun y hy => HQ2.out.mem y ?_⟩
              · rw [← HJ.out.2]
                exact eraseP_idx HP.out.1 HP.out.2.2 HJ.out.1
              · rw [← HJ.out.2]
                exact eraseIdx_srt HQ2.out.srt _
              · have h1 := HS2.out.2.1 b o e
                have h2 := (HT0.out b ht).2
                omega
              · have h2 := (HT0.out i e).1
                omega
              · rw [← HJ.out.2] at hy
                exact (List.eraseIdx_sublist E _).subset hy)
            clear hr hA6 hm6 hA HP HQ2 HS2
            go_upto_region 29 with fail
            obtain ⟨C2, hA2, hp2, hC2⟩ := HN.out.hA
            have HL2 := Lib.hid (fun wq (hq : Mod (fun _ => False) w6 wq) => listS_c ((HAt.good h C2).cl T w6 wq hA2 (hq.mono (fun _ _ e => e.elim))) hp2 HN.out.srt hC2)
            clear hA2 hp2 hC2
            have hml : (E'.map Nd.id).length = m := by rw [List.length_map]; exact HJL.out
            have HML := Lib.hid (And.intro hml (show m ≤ 900000 by omega))
            clear hml
            have Lkp12 := lt_size kp12
            have Lkp17 := lt_size kp17
            refine wp_gpass0 (T0 := fun _ => False) (K := fun _ _ => True) (κ := fun i => [0, 0, 0, 0, 0, 0, 0, 0, 0, 6, 0, 6, 0, 0].getD i 0) (υ := fun i => [[], [], [], [], [], [], [], [], [], [], [], [], [], []].getD i []) [0, 1, 2, 3, 4, 5, 6, 7, 8, 9, 10, 11, 12, 13] (by kernel_rfl) (by kernel_rfl) (Good.true).cl (trivial) (fun _ h => h.elim) ?_
            have gK := Good.true
            (refine TG.load (v := ?v156) (p := ?p156) (by simp only [List.getElem?_toArray, List.getElem?_cons_succ, List.getElem?_cons_zero]; rfl) rfl ?hw156 rfl ?hx156 (fun wq hSq => ?hy156) ?hn156; (case hw156 => rfl); (case hx156 => (simp only [Act.eval, Array.getD_eq_getD_getElem?, List.getElem?_toArray, List.getElem?_cons_succ, List.getElem?_cons_zero, Option.getD_some]; (try rfl))); (case hy156 => (have kp12q := hSq.at kp12 (by intro hT; first | exact hT | exact absurd hT (by assumption) | (simp only at hT; omega)); have kp17q := hSq.at kp17 (by intro hT; first | exact hT | exact absurd hT (by assumption) | (simp only at hT; omega)); go_simp; (try with_reducible rfl))); (try simp only [Act.put, List.setIfInBounds_toArray, List.set_cons_zero, List.set_cons_succ]))
            (refine TG.load (v := ?v157) (p := ?p157) (by simp only [List.getElem?_toArray, List.getElem?_cons_succ, List.getElem?_cons_zero]; rfl) rfl ?hw157 rfl ?hx157 (fun wq hSq => ?hy157) ?hn157; (case hw157 => rfl); (case hx157 => (simp only [Act.eval, Array.getD_eq_getD_getElem?, List.getElem?_toArray, List.getElem?_cons_succ, List.getElem?_cons_zero, Option.getD_some]; (try rfl))); (case hy157 => (have kp12q := hSq.at kp12 (by intro hT; first | exact hT | exact absurd hT (by assumption) | (simp only at hT; omega)); have kp17q := hSq.at kp17 (by intro hT; first | exact hT | exact absurd hT (by assumption) | (simp only at hT; omega)); go_simp; (try with_reducible rfl))); (try simp only [Act.put, List.setIfInBounds_toArray, List.set_cons_zero, List.set_cons_succ]))
            (refine TG.v0 (v := ?v158) (by simp only [List.getElem?_toArray, List.getElem?_cons_succ, List.getElem?_cons_zero]; rfl) rfl ?hw158 (fun w1 => ?hy158) ?hn158; (case hw158 => rfl); (case hy158 => (simp only [execOp, Act.eval, Array.getD_eq_getD_getElem?, List.getElem?_toArray, List.getElem?_cons_succ, List.getElem?_cons_zero, Option.getD_some, rkc_ext]; go_simp; (try with_reducible rfl))); (try simp only [Act.put, List.setIfInBounds_toArray, List.set_cons_zero, List.set_cons_succ]))
            (refine TG.v0 (v := ?v159) (by simp only [List.getElem?_toArray, List.getElem?_cons_succ, List.getElem?_cons_zero]; rfl) rfl ?hw159 (fun w1 => ?hy159) ?hn159; (case hw159 => rfl); (case hy159 => (go_simp; (try with_reducible rfl))); (try simp only [Act.put, List.setIfInBounds_toArray, List.set_cons_zero, List.set_cons_succ]))
            (refine TG.v0 (v := ?v160) (by simp only [List.getElem?_toArray, List.getElem?_cons_succ, List.getElem?_cons_zero]; rfl) rfl ?hw160 (fun w1 => ?hy160) ?hn160; (case hw160 => rfl); (case hy160 => (go_simp; (try with_reducible rfl))); (try simp only [Act.put, List.setIfInBounds_toArray, List.set_cons_zero, List.set_cons_succ]))
            (refine TG.v0 (v := ?v161) (by simp only [List.getElem?_toArray, List.getElem?_cons_succ, List.getElem?_cons_zero]; rfl) rfl ?hw161 (fun w1 => ?hy161) ?hn161; (case hw161 => rfl); (case hy161 => (go_simp; (try with_reducible rfl))); (try simp only [Act.put, List.setIfInBounds_toArray, List.set_cons_zero, List.set_cons_succ]))
            (refine TG.v0 (v := ?v162) (by simp only [List.getElem?_toArray, List.getElem?_cons_succ, List.getElem?_cons_zero]; rfl) rfl ?hw162 (fun w1 => ?hy162) ?hn162; (case hw162 => rfl); (case hy162 => (go_simp; (try with_reducible rfl))); (try simp only [Act.put, List.setIfInBounds_toArray, List.set_cons_zero, List.set_cons_succ]))
            (refine TG.v0 (v := ?v163) (by simp only [List.getElem?_toArray, List.getElem?_cons_succ, List.getElem?_cons_zero]; rfl) rfl ?hw163 (fun w1 => ?hy163) ?hn163; (case hw163 => rfl); (case hy163 => (go_simp; (try with_reducible rfl))); (try simp only [Act.put, List.setIfInBounds_toArray, List.set_cons_zero, List.set_cons_succ]))
            (refine TG.v0 (v := ?v164) (by simp only [List.getElem?_toArray, List.getElem?_cons_succ, List.getElem?_cons_zero]; rfl) rfl ?hw164 (fun w1 => ?hy164) ?hn164; (case hw164 => rfl); (case hy164 => (go_simp; (try with_reducible rfl))); (try simp only [Act.put, List.setIfInBounds_toArray, List.set_cons_zero, List.set_cons_succ]))
            (refine TG.callM (f := ?f165) (args := ?r165) (OwnI (E'.map Nd.id)) (goodI (E'.map Nd.id)) gK (by simp only [List.getElem?_toArray, List.getElem?_cons_succ, List.getElem?_cons_zero]; rfl) rfl ?hw165 (fun w1 => ?hy165) (fun T wq kq ltq hSq ub => ?hsp165) ?hn165; (case hw165 => rfl); (case hy165 => (go_simp; (first | with_reducible rfl | (constructor <;> with_reducible rfl)))); (case hsp165 => (have kp12q := hSq.at kp12 (by intro hT; first | exact hT | exact absurd hT (by assumption) | (simp only at hT; omega)); have kp17q := hSq.at kp17 (by intro hT; first | exact hT | exact absurd hT (by assumption) | (simp only at hT; omega)); exact (HL2.out wq hSq).mono (fun e w' hh => by obtain ⟨v, h1, h2, h3⟩ := hh; exact ⟨v, h1, h3, ownI_new h2⟩))); rintro v165 ⟨wI, TI, hI⟩; replace gK := gK.and ((goodI (E'.map Nd.id)) v165); skip; (try clear hI TI wI); (try simp only [Act.put, List.setIfInBounds_toArray, List.set_cons_zero, List.set_cons_succ]))
            (refine TG.v0 (v := ?v166) (by simp only [List.getElem?_toArray, List.getElem?_cons_succ, List.getElem?_cons_zero]; rfl) rfl ?hw166 (fun w1 => ?hy166) ?hn166; (case hw166 => rfl); (case hy166 => (go_simp; (try with_reducible rfl))); (try simp only [Act.put, List.setIfInBounds_toArray, List.set_cons_zero, List.set_cons_succ]))
            (refine TG.callN (f := ?f167) (args := ?r167) (fun v => v = .bool true) gK (by simp only [List.getElem?_toArray, List.getElem?_cons_succ, List.getElem?_cons_zero]; rfl) rfl ?hw167 (fun w1 => ?hy167) (fun T wq kq ltq hSq ub => ?hsp167) ?hn167; (case hw167 => rfl); (case hy167 => (go_simp; (first | with_reducible rfl | (constructor <;> with_reducible rfl)))); (case hsp167 => (have kp12q := hSq.at kp12 (by intro hT; first | exact hT | exact absurd hT (by assumption) | (simp only at hT; omega)); have kp17q := hSq.at kp17 (by intro hT; first | exact hT | exact absurd hT (by assumption) | (simp only at hT; omega)); obtain ⟨a9, c9, hv9, h9, _⟩ := kq.2.1.at intT; rw [hv9]; have hh := sameA_c (c1 := c9) (c2 := cv) h9 (HN.out.at_.mod0 hSq) (by rw [HML.out.1]; exact HML.out.2) (by rw [HML.out.1]; exact HML.out.2); rw [HML.out.1] at hh; rw [HML.out.1]; exact hh.mono (fun e w' h => ⟨_, h.1, by simp, h.2⟩))); rintro v167 hC; subst hC; (try simp only [Act.put, List.setIfInBounds_toArray, List.set_cons_zero, List.set_cons_succ]))
            (refine TG.v0 (v := ?v168) (by simp only [List.getElem?_toArray, List.getElem?_cons_succ, List.getElem?_cons_zero]; rfl) rfl ?hw168 (fun w1 => ?hy168) ?hn168; (case hw168 => rfl); (case hy168 => (go_simp; (try with_reducible rfl))); (try simp only [Act.put, List.setIfInBounds_toArray, List.set_cons_zero, List.set_cons_succ]))
            (refine TG.v0 (v := ?v169) (by simp only [List.getElem?_toArray, List.getElem?_cons_succ, List.getElem?_cons_zero]; rfl) rfl ?hw169 (fun w1 => ?hy169) ?hn169; (case hw169 => rfl); (case hy169 => (go_simp; (try with_reducible rfl))); (try simp only [Act.put, List.setIfInBounds_toArray, List.set_cons_zero, List.set_cons_succ]))
            refine TG.nil (fun w7 ⟨TR, hr⟩ => ?_)
            have kp12 := hr.mod.at kp12 (by intro hT; first | exact hT | exact absurd hT (by assumption) | (simp only at hT; omega))
            have kp17 := hr.mod.at kp17 (by intro hT; first | exact hT | exact absurd hT (by assumption) | (simp only at hT; omega))
            clear gK
            have HF := Lib.hid (HN.out.mod0 hr.mod)
            clear hr HN HL2 kp12 kp17
            go_wp2_with fail
            go_roundw
            case rel => exact ⟨E', (some ⟨g, o, none⟩), cv, i + 1, by rw [HJL.out], by have := HJL.out; omega, by go_num, HF⟩
            case measure => simp [sliceLen] <;> omega
          · have hE2 : E.eraseIdx 0 = E.drop 1 := by
              rw [List.eraseIdx_eq_take_drop_succ, List.take_zero, List.nil_append]
            obtain ⟨E', hE'⟩ : ∃ E', E.eraseIdx 0 = E' := ⟨_, rfl⟩
            have HJL : Hid (E'.length = m) := Lib.hid (by rw [← hE', hE2, List.length_drop]; omega)
            have HJ : Hid (E[0]? = some ⟨xr, idn k⟩ ∧ E.eraseIdx 0 = E') := Lib.hid ⟨HKX.out.2, hE'⟩
            have HQ := Lib.hid (HE.out.mod0 q4)
            obtain ⟨b0, o0, rfl⟩ := HSL.out.2.2.1
            have HS : Hid (SlAt ic 1 w4 (some ⟨b0, o0, none⟩) (E'.map Nd.id) ∧ (∀ b o', (some (⟨b0, o0, none⟩ : Addr)) = some ⟨b, o', none⟩ → wL.heap.size ≤ b) ∧ (∃ b o', (some (⟨b0, o0, none⟩ : Addr)) = some ⟨b, o', none⟩) ∧ E'.length ≤ c1) := Lib.hid ⟨by rw [← hE', hE2, List.map_drop]; exact HSL.out.1 w4 _ (by rw [List.length_map]; exact hmE) HQ.out.at_, fun b o' e => by cases e; rw [HSL.out.2.1 b0 o0 rfl]; exact HE.out.far g o rfl, ⟨_, _, rfl⟩, by rw [HJL.out]; exact HSL.out.2.2.2⟩
            have e1 := hra
            have d1 := dr1
            have HK := Lib.hid (And.intro HKX.out.1 trivial)
            clear hE2 hE' hra hrb dr1 dr2 q4 HE HTB HKX HKZ HSL hs2 cz
            by_cases hie : i < ends.length
            · obtain ⟨b, hb1⟩ : ∃ b, ends[i]? = some b := ⟨_, List.getElem?_eq_getElem hie⟩
              obtain rfl : b = false := by
                cases b
                · rfl
                · exact absurd ⟨true, hb1, rfl⟩ hb
              obtain ⟨ge, oe, CE, UE, fre, rfl, kE0, hee, _⟩ := HL.out.2.block hb1
              have kE := HQ.out.m.at0 kE0
              have cE : CE[oe + i]? = some (.bool false) := by
                have h0 := cellC hee (j := 0) (v := .bool false) rfl
                simpa using h0
              clear hb hb1 kE0 hee
              go_upto_region 26 with fail
              have Lkl := lt_size kl
              have Lkp12 := lt_size kp12
              refine wp_pass (C := fun _ _ _ => False) (κ := fun i => [0, 0, 0, 0, 0, 0, 0, 0, 1, 0, 0, 0, 1, 0, 0].getD i 0) [0, 1, 2, 3, 4, 5, 6, 7, 8, 9, 10, 11, 12, 13, 14] (by kernel_rfl) (by kernel_rfl) (fun _ _ d _ _ h => by cases d <;> exact h) ?_
              (refine TD.val0 (v := ?v170) (by simp only [List.getElem?_toArray, List.getElem?_cons_succ, List.getElem?_cons_zero]; rfl) rfl ?hw170 (fun w1 => ?hy170) ?hn170; (case hw170 => rfl); (case hy170 => (go_simp; (try with_reducible rfl))); (try simp only [Act.put, List.setIfInBounds_toArray, List.set_cons_zero, List.set_cons_succ]))
              (refine TD.val0 (v := ?v171) (by simp only [List.getElem?_toArray, List.getElem?_cons_succ, List.getElem?_cons_zero]; rfl) rfl ?hw171 (fun w1 => ?hy171) ?hn171; (case hw171 => rfl); (case hy171 => (go_simp; (try with_reducible rfl))); (try simp only [Act.put, List.setIfInBounds_toArray, List.set_cons_zero, List.set_cons_succ]))
              (refine TD.val0 (v := ?v172) (by simp only [List.getElem?_toArray, List.getElem?_cons_succ, List.getElem?_cons_zero]; rfl) rfl ?hw172 (fun w1 => ?hy172) ?hn172; (case hw172 => rfl); (case hy172 => (go_simp; (try with_reducible rfl))); (try simp only [Act.put, List.setIfInBounds_toArray, List.set_cons_zero, List.set_cons_succ]))
              (refine TD.val0 (v := ?v173) (by simp only [List.getElem?_toArray, List.getElem?_cons_succ, List.getElem?_cons_zero]; rfl) rfl ?hw173 (fun w1 => ?hy173) ?hn173; (case hw173 => rfl); (case hy173 => (go_simp; (try with_reducible rfl))); (try simp only [Act.put, List.setIfInBounds_toArray, List.set_cons_zero, List.set_cons_succ]))
              (refine TD.val0 (v := ?v174) (by simp only [List.getElem?_toArray, List.getElem?_cons_succ, List.getElem?_cons_zero]; rfl) rfl ?hw174 (fun w1 => ?hy174) ?hn174; (case hw174 => rfl); (case hy174 => (go_simp; (try with_reducible rfl))); (try simp only [Act.put, List.setIfInBounds_toArray, List.set_cons_zero, List.set_cons_succ]))
              (refine TD.val0 (v := ?v175) (by simp only [List.getElem?_toArray, List.getElem?_cons_succ, List.getElem?_cons_zero]; rfl) rfl ?hw175 (fun w1 => ?hy175) ?hn175; (case hw175 => rfl); (case hy175 => (go_simp; (try with_reducible rfl))); (try simp only [Act.put, List.setIfInBounds_toArray, List.set_cons_zero, List.set_cons_succ]))
              (refine TD.val0 (v := ?v176) (by simp only [List.getElem?_toArray, List.getElem?_cons_succ, List.getElem?_cons_zero]; rfl) rfl ?hw176 (fun w1 => ?hy176) ?hn176; (case hw176 => rfl); (case hy176 => (go_simp; (try with_reducible rfl))); (try simp only [Act.put, List.setIfInBounds_toArray, List.set_cons_zero, List.set_cons_succ]))
              (refine TD.val0 (v := ?v177) (by simp only [List.getElem?_toArray, List.getElem?_cons_succ, List.getElem?_cons_zero]; rfl) rfl ?hw177 (fun w1 => ?hy177) ?hn177; (case hw177 => rfl); (case hy177 => (go_simp; (try with_reducible rfl))); (try simp only [Act.put, List.setIfInBounds_toArray, List.set_cons_zero, List.set_cons_succ]))
              (refine TD.load (v := ?v178) (p := ?p178) (Mod.refl _ _) (by simp only [List.getElem?_toArray, List.getElem?_cons_succ, List.getElem?_cons_zero]; rfl) rfl ?hw178 rfl ?hx178 (fun wq hSq => ?hy178) ?hn178; (case hw178 => rfl); (case hx178 => (simp only [Act.eval, Array.getD_eq_getD_getElem?, List.getElem?_toArray, List.getElem?_cons_succ, List.getElem?_cons_zero, Option.getD_some]; (try rfl))); (case hy178 => (have klq := hSq.at kl (fun h => h); have kp12q := hSq.at kp12 (fun h => h); go_simp; (try with_reducible rfl))); (try simp only [Act.put, List.setIfInBounds_toArray, List.set_cons_zero, List.set_cons_succ]))
              (refine TD.val0 (v := ?v179) (by simp only [List.getElem?_toArray, List.getElem?_cons_succ, List.getElem?_cons_zero]; rfl) rfl ?hw179 (fun w1 => ?hy179) ?hn179; (case hw179 => rfl); (case hy179 => (go_simp; (try with_reducible rfl))); (try simp only [Act.put, List.setIfInBounds_toArray, List.set_cons_zero, List.set_cons_succ]))
              (refine TD.val0 (v := ?v180) (by simp only [List.getElem?_toArray, List.getElem?_cons_succ, List.getElem?_cons_zero]; rfl) rfl ?hw180 (fun w1 => ?hy180) ?hn180; (case hw180 => rfl); (case hy180 => (go_simp; (try with_reducible rfl))); (try simp only [Act.put, List.setIfInBounds_toArray, List.set_cons_zero, List.set_cons_succ]))
              (refine TD.val0 (v := ?v181) (by simp only [List.getElem?_toArray, List.getElem?_cons_succ, List.getElem?_cons_zero]; rfl) rfl ?hw181 (fun w1 => ?hy181) ?hn181; (case hw181 => rfl); (case hy181 => (go_simp; (try with_reducible rfl))); (try simp only [Act.put, List.setIfInBounds_toArray, List.set_cons_zero, List.set_cons_succ]))
              (refine TD.load (v := ?v182) (p := ?p182) (Mod.refl _ _) (by simp only [List.getElem?_toArray, List.getElem?_cons_succ, List.getElem?_cons_zero]; rfl) rfl ?hw182 rfl ?hx182 (fun wq hSq => ?hy182) ?hn182; (case hw182 => rfl); (case hx182 => (simp only [Act.eval, Array.getD_eq_getD_getElem?, List.getElem?_toArray, List.getElem?_cons_succ, List.getElem?_cons_zero, Option.getD_some]; (try rfl))); (case hy182 => (have klq := hSq.at kl (fun h => h); have kp12q := hSq.at kp12 (fun h => h); go_simp; (try with_reducible rfl))); (try simp only [Act.put, List.setIfInBounds_toArray, List.set_cons_zero, List.set_cons_succ]))
              (refine TD.val0 (v := ?v183) (by simp only [List.getElem?_toArray, List.getElem?_cons_succ, List.getElem?_cons_zero]; rfl) rfl ?hw183 (fun w1 => ?hy183) ?hn183; (case hw183 => rfl); (case hy183 => (simp only [execOp, Act.eval, Array.getD_eq_getD_getElem?, List.getElem?_toArray, List.getElem?_cons_succ, List.getElem?_cons_zero, Option.getD_some, e1,rkc_ext]; go_simp; (try with_reducible rfl))); (try simp only [Act.put, List.setIfInBounds_toArray, List.set_cons_zero, List.set_cons_succ]))
              (refine TD.val0 (v := ?v184) (by simp only [List.getElem?_toArray, List.getElem?_cons_succ, List.getElem?_cons_zero]; rfl) rfl ?hw184 (fun w1 => ?hy184) ?hn184; (case hw184 => rfl); (case hy184 => (go_simp; (try with_reducible rfl))); (try simp only [Act.put, List.setIfInBounds_toArray, List.set_cons_zero, List.set_cons_succ]))
              refine TD.nil (fun w5 hr => ?_)
              have kl := hr.mod.at kl (fun h => h)
              have kp12 := hr.mod.at kp12 (fun h => h)
              have HQ2 := Lib.hid (HQ.out.mod0 hr.mod)
              have HS2 := Lib.hid (And.intro (HS.out.1.mod0 hr.mod) HS.out.2)
              clear hr kl e1 d1 HQ HS
              obtain ⟨C, hA, hp, hC⟩ := HQ2.out.hA
              have HP := Lib.hid (And.intro hp (And.intro hC hA.ids))
              clear hp hC
              go_upto_region 28 with fail
              have Lkp12 := lt_size kp12
              refine wp_gpass0 (T0 := T) (K := HTL T h C) (κ := fun i => [0, 0, 6, 0, 0, 0, 3, 4, 0].getD i 0) (υ := fun i => [[], [], [], [], [], [], [], [], []].getD i []) [0, 1, 2, 3, 4, 5, 6, 7, 8] (by kernel_rfl) (by kernel_rfl) (goodHT T h C).cl (⟨hA, fun _ h => h⟩) (fun i hi => Nat.lt_of_lt_of_le (HT0.out i hi).2 HQ2.out.sz) ?_
              have gK := goodHT T h C
              (refine TG.v0 (v := ?v185) (by simp only [List.getElem?_toArray, List.getElem?_cons_succ, List.getElem?_cons_zero]; rfl) rfl ?hw185 (fun w1 => ?hy185) ?hn185; (case hw185 => rfl); (case hy185 => (go_simp; (try with_reducible rfl))); (try simp only [Act.put, List.setIfInBounds_toArray, List.set_cons_zero, List.set_cons_succ]))
              (refine TG.v0 (v := ?v186) (by simp only [List.getElem?_toArray, List.getElem?_cons_succ, List.getElem?_cons_zero]; rfl) rfl ?hw186 (fun w1 => ?hy186) ?hn186; (case hw186 => rfl); (case hy186 => (go_simp; (try with_reducible rfl))); (try simp only [Act.put, List.setIfInBounds_toArray, List.set_cons_zero, List.set_cons_succ]))
              (refine TG.callK (f := ?f187) (args := ?r187) (fun v T' w => v = .tuple #[.agg (rkc xr), .int .i64 0] ∧ HTL T h (C.eraseP (fun y => y.id == idn k)) T' w) (fun v => (Good.pure (v = .tuple #[.agg (rkc xr), .int .i64 0])).and (goodHT T h (C.eraseP (fun y => y.id == idn k)))) (by simp only [List.getElem?_toArray, List.getElem?_cons_succ, List.getElem?_cons_zero]; rfl) rfl ?hw187 (fun w1 => ?hy187) (fun T wq kq ltq hSq ub => ?hsp187) ?hn187; (case hw187 => rfl); (case hy187 => (go_simp; (first | with_reducible rfl | (constructor <;> with_reducible rfl)))); (case hsp187 => (have kp12q := hSq.at kp12 (by intro hT; first | exact hT | exact absurd hT (by assumption) | (simp only at hT; omega)); have hh := HTL.drop kq ltq (idn k) HP.out.2.1 (x := ⟨xr, idn k⟩) (HP.out.1.mem_iff.1 (List.mem_of_getElem? HJ.out.1)) rfl; rw [HK.out.1] at hh; exact hh)); rintro v187 ⟨wI, TI, hI⟩; replace gK := (fun v => (Good.pure (v = .tuple #[.agg (rkc xr), .int .i64 0])).and (goodHT T h (C.eraseP (fun y => y.id == idn k)))) v187; obtain ⟨rfl, _⟩ := hI.k; (try clear hI TI wI); (try simp only [Act.put, List.setIfInBounds_toArray, List.set_cons_zero, List.set_cons_succ]))
              (refine TG.v0 (v := ?v188) (by simp only [List.getElem?_toArray, List.getElem?_cons_succ, List.getElem?_cons_zero]; rfl) rfl ?hw188 (fun w1 => ?hy188) ?hn188; (case hw188 => rfl); (case hy188 => (go_simp; (try with_reducible rfl))); (try simp only [Act.put, List.setIfInBounds_toArray, List.set_cons_zero, List.set_cons_succ]))
              (refine TG.v0 (v := ?v189) (by simp only [List.getElem?_toArray, List.getElem?_cons_succ, List.getElem?_cons_zero]; rfl) rfl ?hw189 (fun w1 => ?hy189) ?hn189; (case hw189 => rfl); (case hy189 => (go_simp; (try with_reducible rfl))); (try simp only [Act.put, List.setIfInBounds_toArray, List.set_cons_zero, List.set_cons_succ]))
              (refine TG.v0 (v := ?v190) (by simp only [List.getElem?_toArray, List.getElem?_cons_succ, List.getElem?_cons_zero]; rfl) rfl ?hw190 (fun w1 => ?hy190) ?hn190; (case hw190 => rfl); (case hy190 => (go_simp; (try with_reducible rfl))); (try simp only [Act.put, List.setIfInBounds_toArray, List.set_cons_zero, List.set_cons_succ]))
              (refine TG.allocB (by simp only [List.getElem?_toArray, List.getElem?_cons_succ, List.getElem?_cons_zero]; rfl) rfl ?hw191 rfl rfl alRk (fun p17 hp17 _ => ?hn191); (case hw191 => rfl); (try simp only [Act.put, List.setIfInBounds_toArray, List.set_cons_zero, List.set_cons_succ]))
              (refine TG.storeB (d := ?d192) (T := ?T192) (y := ?y192) (p := ?p192) (b := ?b192) (v := ?v192) (by simp only [List.getElem?_toArray, List.getElem?_cons_succ, List.getElem?_cons_zero]; rfl) rfl ?hw192 ?hd192 ?hop192 ?hev192 ?hx192 ?hb192 ?htag192 (fun w1 hb1 => ?hy192) ?hn192; (case hw192 => rfl); (case hd192 => rfl); (case hop192 => rfl); (case hev192 => (simp only [Act.eval, Array.getD_eq_getD_getElem?, List.getElem?_toArray, List.getElem?_cons_succ, List.getElem?_cons_zero, Option.getD_some]; (try rfl))); (case hx192 => (simp only [Act.eval, Array.getD_eq_getD_getElem?, List.getElem?_toArray, List.getElem?_cons_succ, List.getElem?_cons_zero, Option.getD_some]; (try rfl))); (case hb192 => first | exact Bx.set_same _ _ _ | (simp only [Bx.set_same]; rfl)); (case htag192 => rfl); (case hy192 => (go_simp; (try with_reducible rfl))); (try simp only [Act.put, List.setIfInBounds_toArray, List.set_cons_zero, List.set_cons_succ]))
              (refine TG.v0 (v := ?v193) (by simp only [List.getElem?_toArray, List.getElem?_cons_succ, List.getElem?_cons_zero]; rfl) rfl ?hw193 (fun w1 => ?hy193) ?hn193; (case hw193 => rfl); (case hy193 => (go_simp; (try with_reducible rfl))); (try simp only [Act.put, List.setIfInBounds_toArray, List.set_cons_zero, List.set_cons_succ]))
              refine TG.nil (fun w6 ⟨TR, hr⟩ => ?_)
              have kp12 := hr.mod.at kp12 (by intro hT; first | exact hT | exact absurd hT (by assumption) | (simp only at hT; omega))
              have kp17 := hr.box p17 _ (by first | exact Bx.set_same _ _ _ | (simp only [Bx.set_same]; rfl)); dsimp only [Value.cells] at kp17; obtain ⟨gp17, nTp17, kp17⟩ := kp17
              clear gK
              have hA6 : HAt h (C.eraseP (fun y => y.id == idn k)) T w6 := hr.k.2.1
              have hm6 := hr.mod
              have HN : Hid (EI w wL h l T E' (some ⟨b0, o0, none⟩) c1 w6) := Lib.hid (by
                refine ⟨⟨_, hA6, ?_, Nat.le_trans List.length_eraseP_le HP.out.2.1⟩, ?_, HS2.out.1.mod hm6 (fun b o e ht => ?_), HS2.out.2.1, fun _ => HS2.out.2.2.1, HS2.out.2.2.2, HQ2.out.m.then hm6 (fun i hi e => ?_), Nat.le_trans HQ2.out.sz hm6.size, fun y hy => HQ2.out.mem y ?_⟩
                · rw [← HJ.out.2]
                  exact eraseP_idx HP.out.1 HP.out.2.2 HJ.out.1
                · rw [← HJ.out.2]
                  exact eraseIdx_srt HQ2.out.srt _
                · have h1 := HS2.out.2.1 b o e
                  have h2 := (HT0.out b ht).2
                  omega
                · have h2 := (HT0.out i e).1
                  omega
                · rw [← HJ.out.2] at hy
                  exact (List.eraseIdx_sublist E _).subset hy)
              clear hr hA6 hm6 hA HP HQ2 HS2
              go_upto_region 29 with fail
              obtain ⟨C2, hA2, hp2, hC2⟩ := HN.out.hA
              have HL2 := Lib.hid (fun wq (hq : Mod (fun _ => False) w6 wq) => listS_c ((HAt.good h C2).cl T w6 wq hA2 (hq.mono (fun _ _ e => e.elim))) hp2 HN.out.srt hC2)
              clear hA2 hp2 hC2
              have hml : (E'.map Nd.id).length = m := by rw [List.length_map]; exact HJL.out
              have HML := Lib.hid (And.intro hml (show m ≤ 900000 by omega))
              clear hml
              have Lkp12 := lt_size kp12
              have Lkp17 := lt_size kp17
              refine wp_gpass0 (T0 := fun _ => False) (K := fun _ _ => True) (κ := fun i => [0, 0, 0, 0, 0, 0, 0, 0, 0, 6, 0, 6, 0, 0].getD i 0) (υ := fun i => [[], [], [], [], [], [], [], [], [], [], [], [], [], []].getD i []) [0, 1, 2, 3, 4, 5, 6, 7, 8, 9, 10, 11, 12, 13] (by kernel_rfl) (by kernel_rfl) (Good.true).cl (trivial) (fun _ h => h.elim) ?_
              have gK := Good.true
              (refine TG.load (v := ?v194) (p := ?p194) (by simp only [List.getElem?_toArray, List.getElem?_cons_succ, List.getElem?_cons_zero]; rfl) rfl ?hw194 rfl ?hx194 (fun wq hSq => ?hy194) ?hn194; (case hw194 => rfl); (case hx194 => (simp only [Act.eval, Array.getD_eq_getD_getElem?, List.getElem?_toArray, List.getElem?_cons_succ, List.getElem?_cons_zero, Option.getD_some]; (try rfl))); (case hy194 => (have kp12q := hSq.at kp12 (by intro hT; first | exact hT | exact absurd hT (by assumption) | (simp only at hT; omega)); have kp17q := hSq.at kp17 (by intro hT; first | exact hT | exact absurd hT (by assumption) | (simp only at hT; omega)); go_simp; (try with_reducible rfl))); (try simp only [Act.put, List.setIfInBounds_toArray, List.set_cons_zero, List.set_cons_succ]))
              (refine TG.load (v := ?v195) (p := ?p195) (by simp only [List.getElem?_toArray, List.getElem?_cons_succ, List.getElem?_cons_zero]; rfl) rfl ?hw195 rfl ?hx195 (fun wq hSq => ?hy195) ?hn195; (case hw195 => rfl); (case hx195 => (simp only [Act.eval, Array.getD_eq_getD_getElem?, List.getElem?_toArray, List.getElem?_cons_succ, List.getElem?_cons_zero, Option.getD_some]; (try rfl))); (case hy195 => (have kp12q := hSq.at kp12 (by intro hT; first | exact hT | exact absurd hT (by assumption) | (simp only at hT; omega)); have kp17q := hSq.at kp17 (by intro hT; first | exact hT | exact absurd hT (by assumption) | (simp only at hT; omega)); go_simp; (try with_reducible rfl))); (try simp only [Act.put, List.setIfInBounds_toArray, List.set_cons_zero, List.set_cons_succ]))
              (refine TG.v0 (v := ?v196) (by simp only [List.getElem?_toArray, List.getElem?_cons_succ, List.getElem?_cons_zero]; rfl) rfl ?hw196 (fun w1 => ?hy196) ?hn196; (case hw196 => rfl); (case hy196 => (simp only [execOp, Act.eval, Array.getD_eq_getD_getElem?, List.getElem?_toArray, List.getElem?_cons_succ, List.getElem?_cons_zero, Option.getD_some, rkc_ext]; go_simp; (try with_reducible rfl))); (try simp only [Act.put, List.setIfInBounds_toArray, List.set_cons_zero, List.set_cons_succ]))
              (refine TG.v0 (v := ?v197) (by simp only [List.getElem?_toArray, List.getElem?_cons_succ, List.getElem?_cons_zero]; rfl) rfl ?hw197 (fun w1 => ?hy197) ?hn197; (case hw197 => rfl); (case hy197 => (go_simp; (try with_reducible rfl))); (try simp only [Act.put, List.setIfInBounds_toArray, List.set_cons_zero, List.set_cons_succ]))
              (refine TG.v0 (v := ?v198) (by simp only [List.getElem?_toArray, List.getElem?_cons_succ, List.getElem?_cons_zero]; rfl) rfl ?hw198 (fun w1 => ?hy198) ?hn198; (case hw198 => rfl); (case hy198 => (go_simp; (try with_reducible rfl))); (try simp only [Act.put, List.setIfInBounds_toArray, List.set_cons_zero, List.set_cons_succ]))
              (refine TG.v0 (v := ?v199) (by simp only [List.getElem?_toArray, List.getElem?_cons_succ, List.getElem?_cons_zero]; rfl) rfl ?hw199 (fun w1 => ?hy199) ?hn199; (case hw199 => rfl); (case hy199 => (go_simp; (try with_reducible rfl))); (try simp only [Act.put, List.setIfInBounds_toArray, List.set_cons_zero, List.set_cons_succ]))
              (refine TG.v0 (v := ?v200) (by simp only [List.getElem?_toArray, List.getElem?_cons_succ, List.getElem?_cons_zero]; rfl) rfl ?hw200 (fun w1 => ?hy200) ?hn200; (case hw200 => rfl); (case hy200 => (go_simp; (try with_reducible rfl))); (try simp only [Act.put, List.setIfInBounds_toArray, List.set_cons_zero, List.set_cons_succ]))
              (refine TG.v0 (v := ?v201) (by simp only [List.getElem?_toArray, List.getElem?_cons_succ, List.getElem?_cons_zero]; rfl) rfl ?hw201 (fun w1 => ?hy201) ?hn201; (case hw201 => rfl); (case hy201 => (go_simp; (try with_reducible rfl))); (try simp only [Act.put, List.setIfInBounds_toArray, List.set_cons_zero, List.set_cons_succ]))
              (refine TG.v0 (v := ?v202) (by simp only [List.getElem?_toArray, List.getElem?_cons_succ, List.getElem?_cons_zero]; rfl) rfl ?hw202 (fun w1 => ?hy202) ?hn202; (case hw202 => rfl); (case hy202 => (go_simp; (try with_reducible rfl))); (try simp only [Act.put, List.setIfInBounds_toArray, List.set_cons_zero, List.set_cons_succ]))
              (refine TG.callM (f := ?f203) (args := ?r203) (OwnI (E'.map Nd.id)) (goodI (E'.map Nd.id)) gK (by simp only [List.getElem?_toArray, List.getElem?_cons_succ, List.getElem?_cons_zero]; rfl) rfl ?hw203 (fun w1 => ?hy203) (fun T wq kq ltq hSq ub => ?hsp203) ?hn203; (case hw203 => rfl); (case hy203 => (go_simp; (first | with_reducible rfl | (constructor <;> with_reducible rfl)))); (case hsp203 => (have kp12q := hSq.at kp12 (by intro hT; first | exact hT | exact absurd hT (by assumption) | (simp only at hT; omega)); have kp17q := hSq.at kp17 (by intro hT; first | exact hT | exact absurd hT (by assumption) | (simp only at hT; omega)); exact (HL2.out wq hSq).mono (fun e w' hh => by obtain ⟨v, h1, h2, h3⟩ := hh; exact ⟨v, h1, h3, ownI_new h2⟩))); rintro v203 ⟨wI, TI, hI⟩; replace gK := gK.and ((goodI (E'.map Nd.id)) v203); skip; (try clear hI TI wI); (try simp only [Act.put, List.setIfInBounds_toArray, List.set_cons_zero, List.set_cons_succ]))
              (refine TG.v0 (v := ?v204) (by simp only [List.getElem?_toArray, List.getElem?_cons_succ, List.getElem?_cons_zero]; rfl) rfl ?hw204 (fun w1 => ?hy204) ?hn204; (case hw204 => rfl); (case hy204 => (go_simp; (try with_reducible rfl))); (try simp only [Act.put, List.setIfInBounds_toArray, List.set_cons_zero, List.set_cons_succ]))
              (refine TG.callN (f := ?f205) (args := ?r205) (fun v => v = .bool true) gK (by simp only [List.getElem?_toArray, List.getElem?_cons_succ, List.getElem?_cons_zero]; rfl) rfl ?hw205 (fun w1 => ?hy205) (fun T wq kq ltq hSq ub => ?hsp205) ?hn205; (case hw205 => rfl); (case hy205 => (go_simp; (first | with_reducible rfl | (constructor <;> with_reducible rfl)))); (case hsp205 => (have kp12q := hSq.at kp12 (by intro hT; first | exact hT | exact absurd hT (by assumption) | (simp only at hT; omega)); have kp17q := hSq.at kp17 (by intro hT; first | exact hT | exact absurd hT (by assumption) | (simp only at hT; omega)); obtain ⟨a9, c9, hv9, h9, _⟩ := kq.2.1.at intT; rw [hv9]; have hh := sameA_c (c1 := c9) (c2 := c1) h9 (HN.out.at_.mod0 hSq) (by rw [HML.out.1]; exact HML.out.2) (by rw [HML.out.1]; exact HML.out.2); rw [HML.out.1] at hh; rw [HML.out.1]; exact hh.mono (fun e w' h => ⟨_, h.1, by simp, h.2⟩))); rintro v205 hC; subst hC; (try simp only [Act.put, List.setIfInBounds_toArray, List.set_cons_zero, List.set_cons_succ]))
              (refine TG.v0 (v := ?v206) (by simp only [List.getElem?_toArray, List.getElem?_cons_succ, List.getElem?_cons_zero]; rfl) rfl ?hw206 (fun w1 => ?hy206) ?hn206; (case hw206 => rfl); (case hy206 => (go_simp; (try with_reducible rfl))); (try simp only [Act.put, List.setIfInBounds_toArray, List.set_cons_zero, List.set_cons_succ]))
              (refine TG.v0 (v := ?v207) (by simp only [List.getElem?_toArray, List.getElem?_cons_succ, List.getElem?_cons_zero]; rfl) rfl ?hw207 (fun w1 => ?hy207) ?hn207; (case hw207 => rfl); (case hy207 => (go_simp; (try with_reducible rfl))); (try simp only [Act.put, List.setIfInBounds_toArray, List.set_cons_zero, List.set_cons_succ]))
              refine TG.nil (fun w7 ⟨TR, hr⟩ => ?_)
              have kp12 := hr.mod.at kp12 (by intro hT; first | exact hT | exact absurd hT (by assumption) | (simp only at hT; omega))
              have kp17 := hr.mod.at kp17 (by intro hT; first | exact hT | exact absurd hT (by assumption) | (simp only at hT; omega))
              clear gK
              have HF := Lib.hid (HN.out.mod0 hr.mod)
              clear hr HN HL2 kp12 kp17
              go_wp2_with fail
              go_roundw
              case rel => exact ⟨E', (some ⟨b0, o0, none⟩), c1, i + 1, by rw [HJL.out], by have := HJL.out; omega, by go_num, HF⟩
              case measure => simp [sliceLen] <;> omega
            · clear hb
              go_upto_region 26 with fail
              have Lkl := lt_size kl
              have Lkp12 := lt_size kp12
              refine wp_pass (C := fun _ _ _ => False) (κ := fun i => [0, 0, 0, 0, 0, 0, 0, 0, 1, 0, 0, 0, 1, 0, 0].getD i 0) [0, 1, 2, 3, 4, 5, 6, 7, 8, 9, 10, 11, 12, 13, 14] (by kernel_rfl) (by kernel_rfl) (fun _ _ d _ _ h => by cases d <;> exact h) ?_
              (refine TD.val0 (v := ?v208) (by simp only [List.getElem?_toArray, List.getElem?_cons_succ, List.getElem?_cons_zero]; rfl) rfl ?hw208 (fun w1 => ?hy208) ?hn208; (case hw208 => rfl); (case hy208 => (go_simp; (try with_reducible rfl))); (try simp only [Act.put, List.setIfInBounds_toArray, List.set_cons_zero, List.set_cons_succ]))
              (refine TD.val0 (v := ?v209) (by simp only [List.getElem?_toArray, List.getElem?_cons_succ, List.getElem?_cons_zero]; rfl) rfl ?hw209 (fun w1 => ?hy209) ?hn209; (case hw209 => rfl); (case hy209 => (go_simp; (try with_reducible rfl))); (try simp only [Act.put, List.setIfInBounds_toArray, List.set_cons_zero, List.set_cons_succ]))
              (refine TD.val0 (v := ?v210) (by simp only [List.getElem?_toArray, List.getElem?_cons_succ, List.getElem?_cons_zero]; rfl) rfl ?hw210 (fun w1 => ?hy210) ?hn210; (case hw210 => rfl); (case hy210 => (go_simp; (try with_reducible rfl))); (try simp only [Act.put, List.setIfInBounds_toArray, List.set_cons_zero, List.set_cons_succ]))
              (refine TD.val0 (v := ?v211) (by simp only [List.getElem?_toArray, List.getElem?_cons_succ, List.getElem?_cons_zero]; rfl) rfl ?hw211 (fun w1 => ?hy211) ?hn211; (case hw211 => rfl); (case hy211 => (go_simp; (try with_reducible rfl))); (try simp only [Act.put, List.setIfInBounds_toArray, List.set_cons_zero, List.set_cons_succ]))
              (refine TD.val0 (v := ?v212) (by simp only [List.getElem?_toArray, List.getElem?_cons_succ, List.getElem?_cons_zero]; rfl) rfl ?hw212 (fun w1 => ?hy212) ?hn212; (case hw212 => rfl); (case hy212 => (go_simp; (try with_reducible rfl))); (try simp only [Act.put, List.setIfInBounds_toArray, List.set_cons_zero, List.set_cons_succ]))
              (refine TD.val0 (v := ?v213) (by simp only [List.getElem?_toArray, List.getElem?_cons_succ, List.getElem?_cons_zero]; rfl) rfl ?hw213 (fun w1 => ?hy213) ?hn213; (case hw213 => rfl); (case hy213 => (go_simp; (try with_reducible rfl))); (try simp only [Act.put, List.setIfInBounds_toArray, List.set_cons_zero, List.set_cons_succ]))
              (refine TD.val0 (v := ?v214) (by simp only [List.getElem?_toArray, List.getElem?_cons_succ, List.getElem?_cons_zero]; rfl) rfl ?hw214 (fun w1 => ?hy214) ?hn214; (case hw214 => rfl); (case hy214 => (go_simp; (try with_reducible rfl))); (try simp only [Act.put, List.setIfInBounds_toArray, List.set_cons_zero, List.set_cons_succ]))
              (refine TD.val0 (v := ?v215) (by simp only [List.getElem?_toArray, List.getElem?_cons_succ, List.getElem?_cons_zero]; rfl) rfl ?hw215 (fun w1 => ?hy215) ?hn215; (case hw215 => rfl); (case hy215 => (go_simp; (try with_reducible rfl))); (try simp only [Act.put, List.setIfInBounds_toArray, List.set_cons_zero, List.set_cons_succ]))
              (refine TD.load (v := ?v216) (p := ?p216) (Mod.refl _ _) (by simp only [List.getElem?_toArray, List.getElem?_cons_succ, List.getElem?_cons_zero]; rfl) rfl ?hw216 rfl ?hx216 (fun wq hSq => ?hy216) ?hn216; (case hw216 => rfl); (case hx216 => (simp only [Act.eval, Array.getD_eq_getD_getElem?, List.getElem?_toArray, List.getElem?_cons_succ, List.getElem?_cons_zero, Option.getD_some]; (try rfl))); (case hy216 => (have klq := hSq.at kl (fun h => h); have kp12q := hSq.at kp12 (fun h => h); go_simp; (try with_reducible rfl))); (try simp only [Act.put, List.setIfInBounds_toArray, List.set_cons_zero, List.set_cons_succ]))
              (refine TD.val0 (v := ?v217) (by simp only [List.getElem?_toArray, List.getElem?_cons_succ, List.getElem?_cons_zero]; rfl) rfl ?hw217 (fun w1 => ?hy217) ?hn217; (case hw217 => rfl); (case hy217 => (go_simp; (try with_reducible rfl))); (try simp only [Act.put, List.setIfInBounds_toArray, List.set_cons_zero, List.set_cons_succ]))
              (refine TD.val0 (v := ?v218) (by simp only [List.getElem?_toArray, List.getElem?_cons_succ, List.getElem?_cons_zero]; rfl) rfl ?hw218 (fun w1 => ?hy218) ?hn218; (case hw218 => rfl); (case hy218 => (go_simp; (try with_reducible rfl))); (try simp only [Act.put, List.setIfInBounds_toArray, List.set_cons_zero, List.set_cons_succ]))
              (refine TD.val0 (v := ?v219) (by simp only [List.getElem?_toArray, List.getElem?_cons_succ, List.getElem?_cons_zero]; rfl) rfl ?hw219 (fun w1 => ?hy219) ?hn219; (case hw219 => rfl); (case hy219 => (go_simp; (try with_reducible rfl))); (try simp only [Act.put, List.setIfInBounds_toArray, List.set_cons_zero, List.set_cons_succ]))
              (refine TD.load (v := ?v220) (p := ?p220) (Mod.refl _ _) (by simp only [List.getElem?_toArray, List.getElem?_cons_succ, List.getElem?_cons_zero]; rfl) rfl ?hw220 rfl ?hx220 (fun wq hSq => ?hy220) ?hn220; (case hw220 => rfl); (case hx220 => (simp only [Act.eval, Array.getD_eq_getD_getElem?, List.getElem?_toArray, List.getElem?_cons_succ, List.getElem?_cons_zero, Option.getD_some]; (try rfl))); (case hy220 => (have klq := hSq.at kl (fun h => h); have kp12q := hSq.at kp12 (fun h => h); go_simp; (try with_reducible rfl))); (try simp only [Act.put, List.setIfInBounds_toArray, List.set_cons_zero, List.set_cons_succ]))
              (refine TD.val0 (v := ?v221) (by simp only [List.getElem?_toArray, List.getElem?_cons_succ, List.getElem?_cons_zero]; rfl) rfl ?hw221 (fun w1 => ?hy221) ?hn221; (case hw221 => rfl); (case hy221 => (simp only [execOp, Act.eval, Array.getD_eq_getD_getElem?, List.getElem?_toArray, List.getElem?_cons_succ, List.getElem?_cons_zero, Option.getD_some, e1,rkc_ext]; go_simp; (try with_reducible rfl))); (try simp only [Act.put, List.setIfInBounds_toArray, List.set_cons_zero, List.set_cons_succ]))
              (refine TD.val0 (v := ?v222) (by simp only [List.getElem?_toArray, List.getElem?_cons_succ, List.getElem?_cons_zero]; rfl) rfl ?hw222 (fun w1 => ?hy222) ?hn222; (case hw222 => rfl); (case hy222 => (go_simp; (try with_reducible rfl))); (try simp only [Act.put, List.setIfInBounds_toArray, List.set_cons_zero, List.set_cons_succ]))
              refine TD.nil (fun w5 hr => ?_)
              have kl := hr.mod.at kl (fun h => h)
              have kp12 := hr.mod.at kp12 (fun h => h)
              have HQ2 := Lib.hid (HQ.out.mod0 hr.mod)
              have HS2 := Lib.hid (And.intro (HS.out.1.mod0 hr.mod) HS.out.2)
              clear hr kl e1 d1 HQ HS
              obtain ⟨C, hA, hp, hC⟩ := HQ2.out.hA
              have HP := Lib.hid (And.intro hp (And.intro hC hA.ids))
              clear hp hC
              go_upto_region 28 with fail
              have Lkp12 := lt_size kp12
              refine wp_gpass0 (T0 := T) (K := HTL T h C) (κ := fun i => [0, 0, 6, 0, 0, 0, 3, 4, 0].getD i 0) (υ := fun i => [[], [], [], [], [], [], [], [], []].getD i []) [0, 1, 2, 3, 4, 5, 6, 7, 8] (by kernel_rfl) (by kernel_rfl) (goodHT T h C).cl (⟨hA, fun _ h => h⟩) (fun i hi => Nat.lt_of_lt_of_le (HT0.out i hi).2 HQ2.out.sz) ?_
              have gK := goodHT T h C
              (refine TG.v0 (v := ?v223) (by simp only [List.getElem?_toArray, List.getElem?_cons_succ, List.getElem?_cons_zero]; rfl) rfl ?hw223 (fun w1 => ?hy223) ?hn223; (case hw223 => rfl); (case hy223 => (go_simp; (try with_reducible rfl))); (try simp only [Act.put, List.setIfInBounds_toArray, List.set_cons_zero, List.set_cons_succ]))
              (refine TG.v0 (v := ?v224) (by simp only [List.getElem?_toArray, List.getElem?_cons_succ, List.getElem?_cons_zero]; rfl) rfl ?hw224 (fun w1 => ?hy224) ?hn224; (case hw224 => rfl); (case hy224 => (go_simp; (try with_reducible rfl))); (try simp only [Act.put, List.setIfInBounds_toArray, List.set_cons_zero, List.set_cons_succ]))
              (refine TG.callK (f := ?f225) (args := ?r225) (fun v T' w => v = .tuple #[.agg (rkc xr), .int .i64 0] ∧ HTL T h (C.eraseP (fun y => y.id == idn k)) T' w) (fun v => (Good.pure (v = .tuple #[.agg (rkc xr), .int .i64 0])).and (goodHT T h (C.eraseP (fun y => y.id == idn k)))) (by simp only [List.getElem?_toArray, List.getElem?_cons_succ, List.getElem?_cons_zero]; rfl) rfl ?hw225 (fun w1 => ?hy225) (fun T wq kq ltq hSq ub => ?hsp225) ?hn225; (case hw225 => rfl); (case hy225 => (go_simp; (first | with_reducible rfl | (constructor <;> with_reducible rfl)))); (case hsp225 => (have kp12q := hSq.at kp12 (by intro hT; first | exact hT | exact absurd hT (by assumption) | (simp only at hT; omega)); have hh := HTL.drop kq ltq (idn k) HP.out.2.1 (x := ⟨xr, idn k⟩) (HP.out.1.mem_iff.1 (List.mem_of_getElem? HJ.out.1)) rfl; rw [HK.out.1] at hh; exact hh)); rintro v225 ⟨wI, TI, hI⟩; replace gK := (fun v => (Good.pure (v = .tuple #[.agg (rkc xr), .int .i64 0])).and (goodHT T h (C.eraseP (fun y => y.id == idn k)))) v225; obtain ⟨rfl, _⟩ := hI.k; (try clear hI TI wI); (try simp only [Act.put, List.setIfInBounds_toArray, List.set_cons_zero, List.set_cons_succ]))
              (refine TG.v0 (v := ?v226) (by simp only [List.getElem?_toArray, List.getElem?_cons_succ, List.getElem?_cons_zero]; rfl) rfl ?hw226 (fun w1 => ?hy226) ?hn226; (case hw226 => rfl); (case hy226 => (go_simp; (try with_reducible rfl))); (try simp only [Act.put, List.setIfInBounds_toArray, List.set_cons_zero, List.set_cons_succ]))
              (refine TG.v0 (v := ?v227) (by simp only [List.getElem?_toArray, List.getElem?_cons_succ, List.getElem?_cons_zero]; rfl) rfl ?hw227 (fun w1 => ?hy227) ?hn227; (case hw227 => rfl); (case hy227 => (go_simp; (try with_reducible rfl))); (try simp only [Act.put, List.setIfInBounds_toArray, List.set_cons_zero, List.set_cons_succ]))
              (refine TG.v0 (v := ?v228) (by simp only [List.getElem?_toArray, List.getElem?_cons_succ, List.getElem?_cons_zero]; rfl) rfl ?hw228 (fun w1 => ?hy228) ?hn228; (case hw228 => rfl); (case hy228 => (go_simp; (try with_reducible rfl))); (try simp only [Act.put, List.setIfInBounds_toArray, List.set_cons_zero, List.set_cons_succ]))
              (refine TG.allocB (by simp only [List.getElem?_toArray, List.getElem?_cons_succ, List.getElem?_cons_zero]; rfl) rfl ?hw229 rfl rfl alRk (fun p17 hp17 _ => ?hn229); (case hw229 => rfl); (try simp only [Act.put, List.setIfInBounds_toArray, List.set_cons_zero, List.set_cons_succ]))
              (refine TG.storeB (d := ?d230) (T := ?T230) (y := ?y230) (p := ?p230) (b := ?b230) (v := ?v230) (by simp only [List.getElem?_toArray, List.getElem?_cons_succ, List.getElem?_cons_zero]; rfl) rfl ?hw230 ?hd230 ?hop230 ?hev230 ?hx230 ?hb230 ?htag230 (fun w1 hb1 => ?hy230) ?hn230; (case hw230 => rfl); (case hd230 => rfl); (case hop230 => rfl); (case hev230 => (simp only [Act.eval, Array.getD_eq_getD_getElem?, List.getElem?_toArray, List.getElem?_cons_succ, List.getElem?_cons_zero, Option.getD_some]; (try rfl))); (case hx230 => (simp only [Act.eval, Array.getD_eq_getD_getElem?, List.getElem?_toArray, List.getElem?_cons_succ, List.getElem?_cons_zero, Option.getD_some]; (try rfl))); (case hb230 => first | exact Bx.set_same _ _ _ | (simp only [Bx.set_same]; rfl)); (case htag230 => rfl); (case hy230 => (go_simp; (try with_reducible rfl))); (try simp only [Act.put, List.setIfInBounds_toArray, List.set_cons_zero, List.set_cons_succ]))
              (refine TG.v0 (v := ?v231) (by simp only [List.getElem?_toArray, List.getElem?_cons_succ, List.getElem?_cons_zero]; rfl) rfl ?hw231 (fun w1 => ?hy231) ?hn231; (case hw231 => rfl); (case hy231 => (go_simp; (try with_reducible rfl))); (try simp only [Act.put, List.setIfInBounds_toArray, List.set_cons_zero, List.set_cons_succ]))
              refine TG.nil (fun w6 ⟨TR, hr⟩ => ?_)
              have kp12 := hr.mod.at kp12 (by intro hT; first | exact hT | exact absurd hT (by assumption) | (simp only at hT; omega))
              have kp17 := hr.box p17 _ (by first | exact Bx.set_same _ _ _ | (simp only [Bx.set_same]; rfl)); dsimp only [Value.cells] at kp17; obtain ⟨gp17, nTp17, kp17⟩ := kp17
              clear gK
              have hA6 : HAt h (C.eraseP (fun y => y.id == idn k)) T w6 := hr.k.2.1
              have hm6 := hr.mod
              have HN : Hid (EI w wL h l T E' (some ⟨b0, o0, none⟩) c1 w6) := Lib.hid (by
                refine ⟨⟨_, hA6, ?_, Nat.le_trans List.length_eraseP_le HP.out.2.1⟩, ?_, HS2.out.1.mod hm6 (fun b o e ht => ?_), HS2.out.2.1, fun _ => HS2.out.2.2.1, HS2.out.2.2.2, HQ2.out.m.then hm6 (fun i hi e => ?_), Nat.le_trans HQ2.out.sz hm6.size, fun y hy => HQ2.out.mem y ?_⟩
                · rw [← HJ.out.2]
                  exact eraseP_idx HP.out.1 HP.out.2.2 HJ.out.1
                · rw [← HJ.out.2]
                  exact eraseIdx_srt HQ2.out.srt _
                · have h1 := HS2.out.2.1 b o e
                  have h2 := (HT0.out b ht).2
                  omega
                · have h2 := (HT0.out i e).1
                  omega
                · rw [← HJ.out.2] at hy
                  exact (List.eraseIdx_sublist E _).subset hy)
              clear hr hA6 hm6 hA HP HQ2 HS2
              go_upto_region 29 with fail
              obtain ⟨C2, hA2, hp2, hC2⟩ := HN.out.hA
              have HL2 := Lib.hid (fun wq (hq : Mod (fun _ => False) w6 wq) => listS_c ((HAt.good h C2).cl T w6 wq hA2 (hq.mono (fun _ _ e => e.elim))) hp2 HN.out.srt hC2)
              clear hA2 hp2 hC2
              have hml : (E'.map Nd.id).length = m := by rw [List.length_map]; exact HJL.out
              have HML := Lib.hid (And.intro hml (show m ≤ 900000 by omega))
              clear hml
              have Lkp12 := lt_size kp12
              have Lkp17 := lt_size kp17
              refine wp_gpass0 (T0 := fun _ => False) (K := fun _ _ => True) (κ := fun i => [0, 0, 0, 0, 0, 0, 0, 0, 0, 6, 0, 6, 0, 0].getD i 0) (υ := fun i => [[], [], [], [], [], [], [], [], [], [], [], [], [], []].getD i []) [0, 1, 2, 3, 4, 5, 6, 7, 8, 9, 10, 11, 12, 13] (by kernel_rfl) (by kernel_rfl) (Good.true).cl (trivial) (fun _ h => h.elim) ?_
              have gK := Good.true
              (refine TG.load (v := ?v232) (p := ?p232) (by simp only [List.getElem?_toArray, List.getElem?_cons_succ, List.getElem?_cons_zero]; rfl) rfl ?hw232 rfl ?hx232 (fun wq hSq => ?hy232) ?hn232; (case hw232 => rfl); (case hx232 => (simp only [Act.eval, Array.getD_eq_getD_getElem?, List.getElem?_toArray, List.getElem?_cons_succ, List.getElem?_cons_zero, Option.getD_some]; (try rfl))); (case hy232 => (have kp12q := hSq.at kp12 (by intro hT; first | exact hT | exact absurd hT (by assumption) | (simp only at hT; omega)); have kp17q := hSq.at kp17 (by intro hT; first | exact hT | exact absurd hT (by assumption) | (simp only at hT; omega)); go_simp; (try with_reducible rfl))); (try simp only [Act.put, List.setIfInBounds_toArray, List.set_cons_zero, List.set_cons_succ]))
              (refine TG.load (v := ?v233) (p := ?p233) (by simp only [List.getElem?_toArray, List.getElem?_cons_succ, List.getElem?_cons_zero]; rfl) rfl ?hw233 rfl ?hx233 (fun wq hSq => ?hy233) ?hn233; (case hw233 => rfl); (case hx233 => (simp only [Act.eval, Array.getD_eq_getD_getElem?, List.getElem?_toArray, List.getElem?_cons_succ, List.getElem?_cons_zero, Option.getD_some]; (try rfl))); (case hy233 => (have kp12q := hSq.at kp12 (by intro hT; first | exact hT | exact absurd hT (by assumption) | (simp only at hT; omega)); have kp17q := hSq.at kp17 (by intro hT; first | exact hT | exact absurd hT (by assumption) | (simp only at hT; omega)); go_simp; (try with_reducible rfl))); (try simp only [Act.put, List.setIfInBounds_toArray, List.set_cons_zero, List.set_cons_succ]))
              (refine TG.v0 (v := ?v234) (by simp only [List.getElem?_toArray, List.getElem?_cons_succ, List.getElem?_cons_zero]; rfl) rfl ?hw234 (fun w1 => ?hy234) ?hn234; (case hw234 => rfl); (case hy234 => (simp only [execOp, Act.eval, Array.getD_eq_getD_getElem?, List.getElem?_toArray, List.getElem?_cons_succ, List.getElem?_cons_zero, Option.getD_some, rkc_ext]; go_simp; (try with_reducible rfl))); (try simp only [Act.put, List.setIfInBounds_toArray, List.set_cons_zero, List.set_cons_succ]))
              (refine TG.v0 (v := ?v235) (by simp only [List.getElem?_toArray, List.getElem?_cons_succ, List.getElem?_cons_zero]; rfl) rfl ?hw235 (fun w1 => ?hy235) ?hn235; (case hw235 => rfl); (case hy235 => (go_simp; (try with_reducible rfl))); (try simp only [Act.put, List.setIfInBounds_toArray, List.set_cons_zero, List.set_cons_succ]))
              (refine TG.v0 (v := ?v236) (by simp only [List.getElem?_toArray, List.getElem?_cons_succ, List.getElem?_cons_zero]; rfl) rfl ?hw236 (fun w1 => ?hy236) ?hn236; (case hw236 => rfl); (case hy236 => (go_simp; (try with_reducible rfl))); (try simp only [Act.put, List.setIfInBounds_toArray, List.set_cons_zero, List.set_cons_succ]))
              (refine TG.v0 (v := ?v237) (by simp only [List.getElem?_toArray, List.getElem?_cons_succ, List.getElem?_cons_zero]; rfl) rfl ?hw237 (fun w1 => ?hy237) ?hn237; (case hw237 => rfl); (case hy237 => (go_simp; (try with_reducible rfl))); (try simp only [Act.put, List.setIfInBounds_toArray, List.set_cons_zero, List.set_cons_succ]))
              (refine TG.v0 (v := ?v238) (by simp only [List.getElem?_toArray, List.getElem?_cons_succ, List.getElem?_cons_zero]; rfl) rfl ?hw238 (fun w1 => ?hy238) ?hn238; (case hw238 => rfl); (case hy238 => (go_simp; (try with_reducible rfl))); (try simp only [Act.put, List.setIfInBounds_toArray, List.set_cons_zero, List.set_cons_succ]))
              (refine TG.v0 (v := ?v239) (by simp only [List.getElem?_toArray, List.getElem?_cons_succ, List.getElem?_cons_zero]; rfl) rfl ?hw239 (fun w1 => ?hy239) ?hn239; (case hw239 => rfl); (case hy239 => (go_simp; (try with_reducible rfl))); (try simp only [Act.put, List.setIfInBounds_toArray, List.set_cons_zero, List.set_cons_succ]))
              (refine TG.v0 (v := ?v240) (by simp only [List.getElem?_toArray, List.getElem?_cons_succ, List.getElem?_cons_zero]; rfl) rfl ?hw240 (fun w1 => ?hy240) ?hn240; (case hw240 => rfl); (case hy240 => (go_simp; (try with_reducible rfl))); (try simp only [Act.put, List.setIfInBounds_toArray, List.set_cons_zero, List.set_cons_succ]))
              (refine TG.callM (f := ?f241) (args := ?r241) (OwnI (E'.map Nd.id)) (goodI (E'.map Nd.id)) gK (by simp only [List.getElem?_toArray, List.getElem?_cons_succ, List.getElem?_cons_zero]; rfl) rfl ?hw241 (fun w1 => ?hy241) (fun T wq kq ltq hSq ub => ?hsp241) ?hn241; (case hw241 => rfl); (case hy241 => (go_simp; (first | with_reducible rfl | (constructor <;> with_reducible rfl)))); (case hsp241 => (have kp12q := hSq.at kp12 (by intro hT; first | exact hT | exact absurd hT (by assumption) | (simp only at hT; omega)); have kp17q := hSq.at kp17 (by intro hT; first | exact hT | exact absurd hT (by assumption) | (simp only at hT; omega)); exact (HL2.out wq hSq).mono (fun e w' hh => by obtain ⟨v, h1, h2, h3⟩ := hh; exact ⟨v, h1, h3, ownI_new h2⟩))); rintro v241 ⟨wI, TI, hI⟩; replace gK := gK.and ((goodI (E'.map Nd.id)) v241); skip; (try clear hI TI wI); (try simp only [Act.put, List.setIfInBounds_toArray, List.set_cons_zero, List.set_cons_succ]))
              (refine TG.v0 (v := ?v242) (by simp only [List.getElem?_toArray, List.getElem?_cons_succ, List.getElem?_cons_zero]; rfl) rfl ?hw242 (fun w1 => ?hy242) ?hn242; (case hw242 => rfl); (case hy242 => (go_simp; (try with_reducible rfl))); (try simp only [Act.put, List.setIfInBounds_toArray, List.set_cons_zero, List.set_cons_succ]))
              (refine TG.callN (f := ?f243) (args := ?r243) (fun v => v = .bool true) gK (by simp only [List.getElem?_toArray, List.getElem?_cons_succ, List.getElem?_cons_zero]; rfl) rfl ?hw243 (fun w1 => ?hy243) (fun T wq kq ltq hSq ub => ?hsp243) ?hn243; (case hw243 => rfl); (case hy243 => (go_simp; (first | with_reducible rfl | (constructor <;> with_reducible rfl)))); (case hsp243 => (have kp12q := hSq.at kp12 (by intro hT; first | exact hT | exact absurd hT (by assumption) | (simp only at hT; omega)); have kp17q := hSq.at kp17 (by intro hT; first | exact hT | exact absurd hT (by assumption) | (simp only at hT; omega)); obtain ⟨a9, c9, hv9, h9, _⟩ := kq.2.1.at intT; rw [hv9]; have hh := sameA_c (c1 := c9) (c2 := c1) h9 (HN.out.at_.mod0 hSq) (by rw [HML.out.1]; exact HML.out.2) (by rw [HML.out.1]; exact HML.out.2); rw [HML.out.1] at hh; rw [HML.out.1]; exact hh.mono (fun e w' h => ⟨_, h.1, by simp, h.2⟩))); rintro v243 hC; subst hC; (try simp only [Act.put, List.setIfInBounds_toArray, List.set_cons_zero, List.set_cons_succ]))
              (refine TG.v0 (v := ?v244) (by simp only [List.getElem?_toArray, List.getElem?_cons_succ, List.getElem?_cons_zero]; rfl) rfl ?hw244 (fun w1 => ?hy244) ?hn244; (case hw244 => rfl); (case hy244 => (go_simp; (try with_reducible rfl))); (try simp only [Act.put, List.setIfInBounds_toArray, List.set_cons_zero, List.set_cons_succ]))
              (refine TG.v0 (v := ?v245) (by simp only [List.getElem?_toArray, List.getElem?_cons_succ, List.getElem?_cons_zero]; rfl) rfl ?hw245 (fun w1 => ?hy245) ?hn245; (case hw245 => rfl); (case hy245 => (go_simp; (try with_reducible rfl))); (try simp only [Act.put, List.setIfInBounds_toArray, List.set_cons_zero, List.set_cons_succ]))
              refine TG.nil (fun w7 ⟨TR, hr⟩ => ?_)
              have kp12 := hr.mod.at kp12 (by intro hT; first | exact hT | exact absurd hT (by assumption) | (simp only at hT; omega))
              have kp17 := hr.mod.at kp17 (by intro hT; first | exact hT | exact absurd hT (by assumption) | (simp only at hT; omega))
              clear gK
              have HF := Lib.hid (HN.out.mod0 hr.mod)
              clear hr HN HL2 kp12 kp17
              go_wp2_with fail
              go_roundw
              case rel => exact ⟨E', (some ⟨b0, o0, none⟩), c1, i + 1, by rw [HJL.out], by have := HJL.out; omega, by go_num, HF⟩
              case measure => simp [sliceLen] <;> omega
end Go.Proofs.Ytnibhnnpjkemhaa
