/- Graphs: the law GraphsChain. -/
import Derived.Test.YtffcnnogkpdinaaGlv
import Derived.Test.YtffcnnogkpdinaaGrd
namespace Go.Proofs.Ytffcnnogkpdinaa
open Go.RowKit
open Go.ChangeMaps (setBlock)
set_option linter.unusedSimpArgs false
set_option linter.unusedVariables false
attribute [local go_sem ↓] wlKey wlRole ldKey ldRole stKey stRole
attribute [local go_sem] zKey_size zRole_size kc_ext rc_size rc_key rc_all rc_s rc_w rc_s' rc_w' rc_one one_int one_bool one_ptr one_slice one_map kc_one kc_one0 cell_blk frozen_blk Value.cells eqMap neMap
def id100 (j : Nat) : Int64 := Int64.ofInt (100 + (j : Int))
theorem id100_toInt {j : Nat} (h : j ≤ 1000) : (id100 j).toInt = 100 + (j : Int) := by
  unfold id100
  rw [Int64.toInt_ofInt_of_le (by omega) (by omega)]
/-- Does the one at j write? -/
def wrAt (l : List Bool) (j : Nat) : Bool := decide (j = 0) || !(l[j]?.getD false)
def chN (k : Key) (l : List Bool) (j : Nat) : Rn := ⟨id100 j, 100, [⟨k, false, wrAt l j⟩]⟩
def chK (k : Key) (l : List Bool) (i : Nat) : List Rn := (List.range i).map (chN k l)
theorem chK_succ (k : Key) (l : List Bool) (i : Nat) : chK k l (i + 1) = chK k l i ++ [chN k l i] := by simp [chK, List.range_succ]
theorem chK_cons (k : Key) (l : List Bool) (i : Nat) : ∃ r, chK k l (i + 1) = chN k l 0 :: r := by
  unfold chK
  rw [List.range_succ_eq_map]
  exact ⟨_, rfl⟩
theorem chK_ch {k : Key} {l : List Bool} {i : Nat} {x : Rn} (h : x ∈ chK k l i) : x.ch = 100 := by
  obtain ⟨j, _, rfl⟩ := List.mem_map.1 h
  rfl
theorem chK_chain (k : Key) (l : List Bool) (i : Nat) : chainR (chK k l i) (id100 i) [⟨k, false, wrAt l i⟩] = 100 := by
  unfold chainR
  cases i with
  | zero => rfl
  | succ i =>
    obtain ⟨r, hr⟩ := chK_cons k l i
    have hc : conf (chN k l 0).l [⟨k, false, wrAt l (i + 1)⟩] = true := by
      simp [conf, chN, wrAt]
    cases hl : ((chK k l (i + 1)).filter fun x => conf x.l [⟨k, false, wrAt l (i + 1)⟩]).getLast? with
    | none =>
      rw [List.getLast?_eq_none_iff] at hl
      have h1 := List.filter_eq_nil_iff.1 hl (chN k l 0) (by rw [hr]; simp)
      exact absurd hc h1
    | some x =>
      have hx := List.mem_of_getLast? hl
      have := chK_ch (List.mem_filter.1 hx).1
      simp [this]
theorem readyAt_blocked (x : Rn) : ∀ (r pre : List Rn), x ∈ pre → (∀ y ∈ r, conf x.l y.l = true) → readyAt pre r = []
  | [], _, _, _ => rfl
  | y :: r, pre, hx, h => by
    unfold readyAt
    rw [if_pos (List.any_eq_true.2 ⟨x, hx, h y (by simp)⟩), List.nil_append]
    exact readyAt_blocked x r _ (List.mem_append_left _ hx) (fun z hz => h z (by simp [hz]))
theorem chK_ready (k : Key) (l : List Bool) (i : Nat) : readyR (chK k l (i + 1)) = [id100 0] := by
  obtain ⟨r, hr⟩ := chK_cons k l i
  have hm : ∀ y ∈ r, conf (chN k l 0).l y.l = true := fun y hy => by
    have h1 : y ∈ chK k l (i + 1) := by rw [hr]; simp [hy]
    obtain ⟨j, _, rfl⟩ := List.mem_map.1 h1
    simp [conf, chN, wrAt]
  rw [hr]
  unfold readyR readyAt
  rw [if_neg (by simp), readyAt_blocked (chN k l 0) r _ (by simp) hm]
  rfl
theorem bool_at {w : World} {a : Option Addr} {l : List Bool} (h : SlAt boc 1 w a l) {i : Nat} {x : Bool} (hx : l[i]? = some x) : ∃ b o C U fr, a = some ⟨b, o, none⟩ ∧ w.heap[b]? = some (.cells C U fr) ∧ C[o + i]? = some (.bool x) := by
  obtain ⟨b, o, C, U, fr, rfl, hk, he, _⟩ := h.block hx
  refine ⟨b, o, C, U, fr, rfl, hk, ?_⟩
  have := cellC he (j := 0) (v := .bool x) rfl
  simpa using this
theorem bsI (z : Int) (w : World) : (Instr.buildSlice 36 1 #[(0, .int .i64 z)]).run Try.prog w = .ok (.slice (some ⟨w.heap.size, 0, none⟩) 1 1) (w.alloc (.cells #[.int .i64 z] 3)) := by
  go_simp
  try rfl
set_option maxRecDepth 20000 in
set_option maxHeartbeats 6400000 in
theorem chainLaw_c (k : Key) (a : Option Addr) (l : List Bool) (c : Nat) (w : World) (hl : SlAt boc 1 w a l) (hb : ∀ b o, a = some ⟨b, o, none⟩ → b < w.heap.size ∨ l = []) (hmx : l.length ≤ 140737488355328) : Calls Try.prog 3 #[.agg (kc k), .slice a l.length c] w fun e w' => e = .returned (.bool true) ∧ Mod (fun _ => False) w w' := by
  have HL := Lib.hid hl
  clear hl
  by_cases hbig : 60 < l.length ∨ l.length = 0
  · go_enter Try.func3, Try.ntmps3
    by_cases h60 : 60 < l.length
    · have hd : decide ((60 : Int) < (l.length : Int)) = true := decide_eq_true (by omega)
      have hd2 : decide (60 < l.length) = true := decide_eq_true h60
      clear hbig
      go_wp2_with fail
      go_at_call 8
      refine (lives_c _).mono ?_
      rintro e w4 ⟨rfl, m4⟩
      go_wp2_with fail
      go_ret
      exact ⟨rfl, ((Mod.refl _ _).alloc _).then0 m4⟩
    · obtain h0 : l.length = 0 := by omega
      rw [h0]
      clear hbig h60 h0
      go_wp2_with fail
      go_at_call 8
      refine (lives_c _).mono ?_
      rintro e w4 ⟨rfl, m4⟩
      go_wp2_with fail
      go_ret
      exact ⟨rfl, ((Mod.refl _ _).alloc _).then0 m4⟩
  · have h60 : l.length ≤ 60 := by omega
    have h0 : 0 < l.length := by omega
    have hd : decide ((60 : Int) < (l.length : Int)) = false := decide_eq_false (by omega)
    have hd2 : decide (60 < l.length) = false := decide_eq_false (by omega)
    have hz : ((l.length : Int) == 0) = false := by
      rw [beq_eq_false_iff_ne]
      omega
    clear hbig hmx
    go_enter Try.func3, Try.ntmps3
    go_wp2_with fail
    go_at_call 9
    have kk := heap_alloc_new w (.cells (kc k) 23)
    have m0 : Mod (fun _ => False) w (w.alloc (.cells (kc k) 23)) := (Mod.refl _ _).alloc _
    generalize w.alloc (.cells (kc k) 23) = w1 at *
    have Lkk := lt_size kk
    generalize hp : w.heap.size = p2 at *
    refine (newR_c _).mono ?_
    rintro e w3 ⟨g, rfl, U, hA, m3, hT⟩
    have hU0 : ∀ i, U i → p2 < i := fun i hi => by have := hT i hi; omega
    replace kk := m3.at0 kk
    have mm := m0.then0 m3
    have HA := Lib.hid (And.intro hA hU0)
    have HP := Lib.hid hp
    clear hA hU0 hT m0 m3 hp
    go_wp2_with fail
    go_loopw [6] (fun s6 ws => ∃ (i : Nat) (T : Nat → Prop), i ≤ l.length ∧ s6 = .int .i64 i ∧ Hid (RAt g i (chK k l i) T ws ∧ (∀ j, T j → p2 < j)) ∧ ws.heap[p2]? = some (.cells (kc k) 23 (0, 0)) ∧ Hid (Mod (fun _ => False) w ws)) (fun s6 _ => l.length - (intOf s6).toNat)
    case atStart => exact ⟨0, U, by omega, rfl, HA, kk, Lib.hid mm⟩
    case round =>
      obtain ⟨i, T, hi, rfl, HR, kk, HMm⟩ := hrel
      by_cases hlt : i < l.length
      · obtain ⟨b, hbx⟩ : ∃ b, l[i]? = some b := ⟨_, List.getElem?_eq_getElem hlt⟩
        obtain ⟨bl, o, C, V, fr, rfl, kl, hx⟩ := bool_at (HL.out.mod0 HMm.out) hbx
        have nT2 : ¬ T p2 := fun h => by have := HR.out.2 _ h; omega
        have nTl : ¬ T bl := fun h => by
          have h1 := HR.out.2 _ h
          have h2 := hb bl o rfl
          have h3 := HP.out
          rcases h2 with h2 | h2
          · omega
          · rw [h2] at hlt; cases hlt
        have hw1 : IntKind.i64.wrap ((100 : Int) + (i : Int)) = 100 + (i : Int) := by
          rw [IntKind.wrap_i64]
          omega
        have hsum : (id100 i).toInt = 100 + (i : Int) := id100_toInt (by omega)
        have hput : ∀ (v : Bool), v = wrAt l i → chK k l (i + 1) = chK k l i ++ [⟨id100 i, chainR (chK k l i) (id100 i) [⟨k, false, v⟩], [⟨k, false, v⟩]⟩] := fun v hv => by
          rw [hv, chK_chain, chK_succ]
          rfl
        have hids : ∀ x ∈ chK k l i, x.id ≠ id100 i := fun x hx e => by
          obtain ⟨j, hj, rfl⟩ := List.mem_map.1 hx
          have hj := List.mem_range.1 hj
          have h1 := congrArg Int64.toInt e
          have h2 : (chN k l j).id.toInt = 100 + (j : Int) := id100_toInt (by omega)
          rw [h2, hsum] at h1
          omega
        have HQ := Lib.hid (And.intro hsum (And.intro hput hids))
        have hq9 : i < 900 := by omega
        have HB := Lib.hid hbx
        clear hsum hput hids hbx
        have hwi : IntKind.i64.wrap ((i : Int) + 1) = (i : Int) + 1 := by
          rw [IntKind.wrap_i64]
          omega
        have hdi : decide ((i : Int) < (l.length : Int)) = true := decide_eq_true (by omega)
        by_cases hi0 : i = 0
        · have he0 : ((i : Int) == 0) = true := by
            rw [beq_iff_eq]
            omega
          have hv : true = wrAt l i := by simp [wrAt, hi0]
          have HV := Lib.hid hv
          have HI0 := Lib.hid hi0
          have c1 := buildRole k true
          have s1 := bsRole ⟨k, false, true⟩
          clear hi0 hv
          go_upto_region 7 with fail
          have Lkk := lt_size kk
          have Lkl := lt_size kl
          refine wp_gpass (T0 := T) (K := GL g i (chK k l i)) (κ := fun i => [0, 0, 0, 0, 0, 0, 0, 0, 0, 0, 0, 0, 0, 0, 3, 6, 0].getD i 0) (υ := fun i => [[], [], [], [], [], [], [], [], [], [], [], [], [], [], [], [40], []].getD i []) [0, 1, 2, 3, 4, 5, 6, 7, 8, 9, 10, 11, 12, 13, 14, 15, 16] (by kernel_rfl) (by kernel_rfl) (goodGL g i (chK k l i)).cl (HR.out.1.1) (HR.out.1.2) ?_
          have gK := goodGL g i (chK k l i)
          (refine TG.v0 (v := ?v1) (by simp only [List.getElem?_toArray, List.getElem?_cons_succ, List.getElem?_cons_zero]; rfl) rfl ?hw1 (fun w1 => ?hy1) ?hn1; (case hw1 => rfl); (case hy1 => (go_simp; (try with_reducible rfl))); (try simp only [Act.put, List.setIfInBounds_toArray, List.set_cons_zero, List.set_cons_succ]))
          (refine TG.v0 (v := ?v2) (by simp only [List.getElem?_toArray, List.getElem?_cons_succ, List.getElem?_cons_zero]; rfl) rfl ?hw2 (fun w1 => ?hy2) ?hn2; (case hw2 => rfl); (case hy2 => (go_simp; (try with_reducible rfl))); (try simp only [Act.put, List.setIfInBounds_toArray, List.set_cons_zero, List.set_cons_succ]))
          (refine TG.v0 (v := ?v3) (by simp only [List.getElem?_toArray, List.getElem?_cons_succ, List.getElem?_cons_zero]; rfl) rfl ?hw3 (fun w1 => ?hy3) ?hn3; (case hw3 => rfl); (case hy3 => (go_simp; (try with_reducible rfl))); (try simp only [Act.put, List.setIfInBounds_toArray, List.set_cons_zero, List.set_cons_succ]))
          (refine TG.load (v := ?v4) (p := ?p4) (by simp only [List.getElem?_toArray, List.getElem?_cons_succ, List.getElem?_cons_zero]; rfl) rfl ?hw4 rfl ?hx4 (fun wq hSq => ?hy4) ?hn4; (case hw4 => rfl); (case hx4 => (simp only [Act.eval, Array.getD_eq_getD_getElem?, List.getElem?_toArray, List.getElem?_cons_succ, List.getElem?_cons_zero, Option.getD_some]; (try rfl))); (case hy4 => (have kkq := hSq.at kk (by intro hT; first | exact hT | exact absurd hT (by assumption) | omega | (simp only at hT; omega)); have klq := hSq.at kl (by intro hT; first | exact hT | exact absurd hT (by assumption) | omega | (simp only at hT; omega)); go_simp; (try with_reducible rfl))); (try simp only [Act.put, List.setIfInBounds_toArray, List.set_cons_zero, List.set_cons_succ]))
          (refine TG.v0 (v := ?v5) (by simp only [List.getElem?_toArray, List.getElem?_cons_succ, List.getElem?_cons_zero]; rfl) rfl ?hw5 (fun w1 => ?hy5) ?hn5; (case hw5 => rfl); (case hy5 => (go_simp; (try with_reducible rfl))); (try simp only [Act.put, List.setIfInBounds_toArray, List.set_cons_zero, List.set_cons_succ]))
          (refine TG.v0 (v := ?v6) (by simp only [List.getElem?_toArray, List.getElem?_cons_succ, List.getElem?_cons_zero]; rfl) rfl ?hw6 (fun w1 => ?hy6) ?hn6; (case hw6 => rfl); (case hy6 => (go_simp; (try with_reducible rfl))); (try simp only [Act.put, List.setIfInBounds_toArray, List.set_cons_zero, List.set_cons_succ]))
          (refine TG.v0 (v := ?v7) (by simp only [List.getElem?_toArray, List.getElem?_cons_succ, List.getElem?_cons_zero]; rfl) rfl ?hw7 (fun w1 => ?hy7) ?hn7; (case hw7 => rfl); (case hy7 => (go_simp; (try with_reducible rfl))); (try simp only [Act.put, List.setIfInBounds_toArray, List.set_cons_zero, List.set_cons_succ]))
          (refine TG.pass (by simp only [List.getElem?_toArray, List.getElem?_cons_succ, List.getElem?_cons_zero]; rfl) rfl ?hw8 ?hn8; (case hw8 => rfl); (try simp only [Act.put, List.setIfInBounds_toArray, List.set_cons_zero, List.set_cons_succ]))
          (refine TG.pass (by simp only [List.getElem?_toArray, List.getElem?_cons_succ, List.getElem?_cons_zero]; rfl) rfl ?hw9 ?hn9; (case hw9 => rfl); (try simp only [Act.put, List.setIfInBounds_toArray, List.set_cons_zero, List.set_cons_succ]))
          (refine TG.pass (by simp only [List.getElem?_toArray, List.getElem?_cons_succ, List.getElem?_cons_zero]; rfl) rfl ?hw10 ?hn10; (case hw10 => rfl); (try simp only [Act.put, List.setIfInBounds_toArray, List.set_cons_zero, List.set_cons_succ]))
          (refine TG.pass (by simp only [List.getElem?_toArray, List.getElem?_cons_succ, List.getElem?_cons_zero]; rfl) rfl ?hw11 ?hn11; (case hw11 => rfl); (try simp only [Act.put, List.setIfInBounds_toArray, List.set_cons_zero, List.set_cons_succ]))
          (refine TG.pass (by simp only [List.getElem?_toArray, List.getElem?_cons_succ, List.getElem?_cons_zero]; rfl) rfl ?hw12 ?hn12; (case hw12 => rfl); (try simp only [Act.put, List.setIfInBounds_toArray, List.set_cons_zero, List.set_cons_succ]))
          (refine TG.v0 (v := ?v13) (by simp only [List.getElem?_toArray, List.getElem?_cons_succ, List.getElem?_cons_zero]; rfl) rfl ?hw13 (fun w1 => ?hy13) ?hn13; (case hw13 => rfl); (case hy13 => (go_simp; (try with_reducible rfl))); (try simp only [Act.put, List.setIfInBounds_toArray, List.set_cons_zero, List.set_cons_succ]))
          (refine TG.build (v := ?v14) (ps := ?p14) (by simp only [List.getElem?_toArray, List.getElem?_cons_succ, List.getElem?_cons_zero]; rfl) rfl ?hw14 rfl ?hx14 (fun w1 => ?hy14) ?hn14; (case hw14 => rfl); (case hx14 => (simp only [List.map_toArray, List.map_cons, List.map_nil, Act.eval, Array.getD_eq_getD_getElem?, List.getElem?_toArray, List.getElem?_cons_succ, List.getElem?_cons_zero, Option.getD_some]; (try rfl))); (case hy14 => (rw [c1]; (try with_reducible rfl))); (try simp only [Act.put, List.setIfInBounds_toArray, List.set_cons_zero, List.set_cons_succ]))
          (refine TG.bslice (by simp only [List.getElem?_toArray, List.getElem?_cons_succ, List.getElem?_cons_zero]; rfl) rfl ?hw15 rfl rfl ?hx15 s1 (fun p40 hp40 _ => ?hn15); (case hw15 => rfl); (case hx15 => (simp only [List.map_toArray, List.map_cons, List.map_nil, Act.eval, Array.getD_eq_getD_getElem?, List.getElem?_toArray, List.getElem?_cons_succ, List.getElem?_cons_zero, Option.getD_some]; (try rfl))); (try simp only [Act.put, List.setIfInBounds_toArray, List.set_cons_zero, List.set_cons_succ]))
          (refine TG.callK (f := ?f16) (args := ?r16) (VG (.int .i64 0) g (i + 1) (chK k l (i + 1))) (goodVG (.int .i64 0) g (i + 1) (chK k l (i + 1))) (by simp only [List.getElem?_toArray, List.getElem?_cons_succ, List.getElem?_cons_zero]; rfl) rfl ?hw16 (fun w1 => ?hy16) (fun T wq kq ltq hSq ub => ?hsp16) ?hn16; (case hw16 => rfl); (case hy16 => (go_simp; (first | with_reducible rfl | (constructor <;> with_reducible rfl)))); (case hsp16 => (have kkq := hSq.at kk (by intro hT; first | exact hT | exact absurd hT (by assumption) | omega | (simp only at hT; omega)); have klq := hSq.at kl (by intro hT; first | exact hT | exact absurd hT (by assumption) | omega | (simp only at hT; omega)); have kp40 := ub.box (p := p40) (by first | exact Bx.set_same _ _ _ | (simp only [Bx.set_same]; rfl)) (by first | decide | exact List.mem_singleton.2 rfl | simp); dsimp only [Value.cells] at kp40; have nUp40 := (ub p40 _ (by first | exact Bx.set_same _ _ _ | (simp only [Bx.set_same]; rfl)) (by first | decide | exact List.mem_singleton.2 rfl | simp)).1; exact putL kq ltq hq9 (id100 i) _ HQ.out.1 [⟨k, false, true⟩] 1 1 rfl (roles1 _ kp40) (fun _ b o e => by cases e; exact nUp40) (by simp) HQ.out.2.2 (HQ.out.2.1 _ HV.out))); rintro v16 ⟨wI, TI, hI⟩; replace gK := (goodVG (.int .i64 0) g (i + 1) (chK k l (i + 1))) v16; obtain ⟨rfl, _⟩ := hI.k; (try clear hI TI wI); (try simp only [Act.put, List.setIfInBounds_toArray, List.set_cons_zero, List.set_cons_succ]))
          (refine TG.v0 (v := ?v17) (by simp only [List.getElem?_toArray, List.getElem?_cons_succ, List.getElem?_cons_zero]; rfl) rfl ?hw17 (fun w1 => ?hy17) ?hn17; (case hw17 => rfl); (case hy17 => (go_simp; (try with_reducible rfl))); (try simp only [Act.put, List.setIfInBounds_toArray, List.set_cons_zero, List.set_cons_succ]))
          refine TG.nil (fun w4 ⟨TR, hr⟩ => ?_)
          have kk := hr.mod.at kk (by intro hT; first | exact hT | exact absurd hT (by assumption) | omega | (simp only at hT; omega))
          have kl := hr.mod.at kl (by intro hT; first | exact hT | exact absurd hT (by assumption) | omega | (simp only at hT; omega))
          have kp40 := hr.box p40 _ (by first | exact Bx.set_same _ _ _ | (simp only [Bx.set_same]; rfl)); dsimp only [Value.cells] at kp40; obtain ⟨gp40, nTp40, kp40⟩ := kp40
          clear gK
          have hA4 : RAt g (i + 1) (chK k l (i + 1)) TR w4 := ⟨hr.k.2, hr.lt⟩
          have m4 : Mod (fun _ => False) w w4 := HMm.out.then hr.mod (fun j hj h => by have := HR.out.2 j h; have := HP.out; omega)
          have h2 : ∀ j, TR j → p2 < j := fun j hj => by
            rcases Nat.lt_or_ge j wr.heap.size with h | h
            · exact HR.out.2 j (hr.old j h hj)
            · have := lt_size (by assumption : wr.heap[p2]? = _); omega
          have HR' := Lib.hid (And.intro hA4 h2)
          have HM' := Lib.hid m4
          clear hr hA4 m4 h2
          go_wp2_with fail
          go_roundw
          case rel => exact ⟨i + 1, TR, by omega, by go_num, HR', kk, HM'⟩
          case measure => simp [intOf]; omega
        · have he0 : ((i : Int) == 0) = false := by
            rw [beq_eq_false_iff_ne]
            omega
          have hv : (!b) = wrAt l i := by
            have := HB.out
            simp [wrAt, hi0, this]
          have HV := Lib.hid hv
          have HI0 := Lib.hid hi0
          have c1 := buildRole k (!b)
          have s1 := bsRole ⟨k, false, !b⟩
          clear hi0 hv
          go_upto_region 7 with fail
          have Lkk := lt_size kk
          have Lkl := lt_size kl
          refine wp_gpass (T0 := T) (K := GL g i (chK k l i)) (κ := fun i => [0, 0, 0, 0, 0, 0, 0, 0, 0, 0, 0, 0, 0, 0, 3, 6, 0].getD i 0) (υ := fun i => [[], [], [], [], [], [], [], [], [], [], [], [], [], [], [], [40], []].getD i []) [0, 1, 2, 3, 4, 5, 6, 7, 8, 9, 10, 11, 12, 13, 14, 15, 16] (by kernel_rfl) (by kernel_rfl) (goodGL g i (chK k l i)).cl (HR.out.1.1) (HR.out.1.2) ?_
          have gK := goodGL g i (chK k l i)
          (refine TG.v0 (v := ?v18) (by simp only [List.getElem?_toArray, List.getElem?_cons_succ, List.getElem?_cons_zero]; rfl) rfl ?hw18 (fun w1 => ?hy18) ?hn18; (case hw18 => rfl); (case hy18 => (go_simp; (try with_reducible rfl))); (try simp only [Act.put, List.setIfInBounds_toArray, List.set_cons_zero, List.set_cons_succ]))
          (refine TG.v0 (v := ?v19) (by simp only [List.getElem?_toArray, List.getElem?_cons_succ, List.getElem?_cons_zero]; rfl) rfl ?hw19 (fun w1 => ?hy19) ?hn19; (case hw19 => rfl); (case hy19 => (go_simp; (try with_reducible rfl))); (try simp only [Act.put, List.setIfInBounds_toArray, List.set_cons_zero, List.set_cons_succ]))
          (refine TG.v0 (v := ?v20) (by simp only [List.getElem?_toArray, List.getElem?_cons_succ, List.getElem?_cons_zero]; rfl) rfl ?hw20 (fun w1 => ?hy20) ?hn20; (case hw20 => rfl); (case hy20 => (go_simp; (try with_reducible rfl))); (try simp only [Act.put, List.setIfInBounds_toArray, List.set_cons_zero, List.set_cons_succ]))
          (refine TG.load (v := ?v21) (p := ?p21) (by simp only [List.getElem?_toArray, List.getElem?_cons_succ, List.getElem?_cons_zero]; rfl) rfl ?hw21 rfl ?hx21 (fun wq hSq => ?hy21) ?hn21; (case hw21 => rfl); (case hx21 => (simp only [Act.eval, Array.getD_eq_getD_getElem?, List.getElem?_toArray, List.getElem?_cons_succ, List.getElem?_cons_zero, Option.getD_some]; (try rfl))); (case hy21 => (have kkq := hSq.at kk (by intro hT; first | exact hT | exact absurd hT (by assumption) | omega | (simp only at hT; omega)); have klq := hSq.at kl (by intro hT; first | exact hT | exact absurd hT (by assumption) | omega | (simp only at hT; omega)); go_simp; (try with_reducible rfl))); (try simp only [Act.put, List.setIfInBounds_toArray, List.set_cons_zero, List.set_cons_succ]))
          (refine TG.v0 (v := ?v22) (by simp only [List.getElem?_toArray, List.getElem?_cons_succ, List.getElem?_cons_zero]; rfl) rfl ?hw22 (fun w1 => ?hy22) ?hn22; (case hw22 => rfl); (case hy22 => (go_simp; (try with_reducible rfl))); (try simp only [Act.put, List.setIfInBounds_toArray, List.set_cons_zero, List.set_cons_succ]))
          (refine TG.v0 (v := ?v23) (by simp only [List.getElem?_toArray, List.getElem?_cons_succ, List.getElem?_cons_zero]; rfl) rfl ?hw23 (fun w1 => ?hy23) ?hn23; (case hw23 => rfl); (case hy23 => (go_simp; (try with_reducible rfl))); (try simp only [Act.put, List.setIfInBounds_toArray, List.set_cons_zero, List.set_cons_succ]))
          (refine TG.v0 (v := ?v24) (by simp only [List.getElem?_toArray, List.getElem?_cons_succ, List.getElem?_cons_zero]; rfl) rfl ?hw24 (fun w1 => ?hy24) ?hn24; (case hw24 => rfl); (case hy24 => (go_simp; (try with_reducible rfl))); (try simp only [Act.put, List.setIfInBounds_toArray, List.set_cons_zero, List.set_cons_succ]))
          (refine TG.v0 (v := ?v25) (by simp only [List.getElem?_toArray, List.getElem?_cons_succ, List.getElem?_cons_zero]; rfl) rfl ?hw25 (fun w1 => ?hy25) ?hn25; (case hw25 => rfl); (case hy25 => (go_simp; (try with_reducible rfl))); (try simp only [Act.put, List.setIfInBounds_toArray, List.set_cons_zero, List.set_cons_succ]))
          (refine TG.v0 (v := ?v26) (by simp only [List.getElem?_toArray, List.getElem?_cons_succ, List.getElem?_cons_zero]; rfl) rfl ?hw26 (fun w1 => ?hy26) ?hn26; (case hw26 => rfl); (case hy26 => (go_simp; (try with_reducible rfl))); (try simp only [Act.put, List.setIfInBounds_toArray, List.set_cons_zero, List.set_cons_succ]))
          (refine TG.v0 (v := ?v27) (by simp only [List.getElem?_toArray, List.getElem?_cons_succ, List.getElem?_cons_zero]; rfl) rfl ?hw27 (fun w1 => ?hy27) ?hn27; (case hw27 => rfl); (case hy27 => (go_simp; (try with_reducible rfl))); (try simp only [Act.put, List.setIfInBounds_toArray, List.set_cons_zero, List.set_cons_succ]))
          (refine TG.load (v := ?v28) (p := ?p28) (by simp only [List.getElem?_toArray, List.getElem?_cons_succ, List.getElem?_cons_zero]; rfl) rfl ?hw28 rfl ?hx28 (fun wq hSq => ?hy28) ?hn28; (case hw28 => rfl); (case hx28 => (simp only [Act.eval, Array.getD_eq_getD_getElem?, List.getElem?_toArray, List.getElem?_cons_succ, List.getElem?_cons_zero, Option.getD_some]; (try rfl))); (case hy28 => (have kkq := hSq.at kk (by intro hT; first | exact hT | exact absurd hT (by assumption) | omega | (simp only at hT; omega)); have klq := hSq.at kl (by intro hT; first | exact hT | exact absurd hT (by assumption) | omega | (simp only at hT; omega)); go_simp; (try with_reducible rfl))); (try simp only [Act.put, List.setIfInBounds_toArray, List.set_cons_zero, List.set_cons_succ]))
          (refine TG.v0 (v := ?v29) (by simp only [List.getElem?_toArray, List.getElem?_cons_succ, List.getElem?_cons_zero]; rfl) rfl ?hw29 (fun w1 => ?hy29) ?hn29; (case hw29 => rfl); (case hy29 => (go_simp; (try with_reducible rfl))); (try simp only [Act.put, List.setIfInBounds_toArray, List.set_cons_zero, List.set_cons_succ]))
          (refine TG.v0 (v := ?v30) (by simp only [List.getElem?_toArray, List.getElem?_cons_succ, List.getElem?_cons_zero]; rfl) rfl ?hw30 (fun w1 => ?hy30) ?hn30; (case hw30 => rfl); (case hy30 => (go_simp; (try with_reducible rfl))); (try simp only [Act.put, List.setIfInBounds_toArray, List.set_cons_zero, List.set_cons_succ]))
          (refine TG.build (v := ?v31) (ps := ?p31) (by simp only [List.getElem?_toArray, List.getElem?_cons_succ, List.getElem?_cons_zero]; rfl) rfl ?hw31 rfl ?hx31 (fun w1 => ?hy31) ?hn31; (case hw31 => rfl); (case hx31 => (simp only [List.map_toArray, List.map_cons, List.map_nil, Act.eval, Array.getD_eq_getD_getElem?, List.getElem?_toArray, List.getElem?_cons_succ, List.getElem?_cons_zero, Option.getD_some]; (try rfl))); (case hy31 => (rw [c1]; (try with_reducible rfl))); (try simp only [Act.put, List.setIfInBounds_toArray, List.set_cons_zero, List.set_cons_succ]))
          (refine TG.bslice (by simp only [List.getElem?_toArray, List.getElem?_cons_succ, List.getElem?_cons_zero]; rfl) rfl ?hw32 rfl rfl ?hx32 s1 (fun p40 hp40 _ => ?hn32); (case hw32 => rfl); (case hx32 => (simp only [List.map_toArray, List.map_cons, List.map_nil, Act.eval, Array.getD_eq_getD_getElem?, List.getElem?_toArray, List.getElem?_cons_succ, List.getElem?_cons_zero, Option.getD_some]; (try rfl))); (try simp only [Act.put, List.setIfInBounds_toArray, List.set_cons_zero, List.set_cons_succ]))
          (refine TG.callK (f := ?f33) (args := ?r33) (VG (.int .i64 0) g (i + 1) (chK k l (i + 1))) (goodVG (.int .i64 0) g (i + 1) (chK k l (i + 1))) (by simp only [List.getElem?_toArray, List.getElem?_cons_succ, List.getElem?_cons_zero]; rfl) rfl ?hw33 (fun w1 => ?hy33) (fun T wq kq ltq hSq ub => ?hsp33) ?hn33; (case hw33 => rfl); (case hy33 => (go_simp; (first | with_reducible rfl | (constructor <;> with_reducible rfl)))); (case hsp33 => (have kkq := hSq.at kk (by intro hT; first | exact hT | exact absurd hT (by assumption) | omega | (simp only at hT; omega)); have klq := hSq.at kl (by intro hT; first | exact hT | exact absurd hT (by assumption) | omega | (simp only at hT; omega)); have kp40 := ub.box (p := p40) (by first | exact Bx.set_same _ _ _ | (simp only [Bx.set_same]; rfl)) (by first | decide | exact List.mem_singleton.2 rfl | simp); dsimp only [Value.cells] at kp40; have nUp40 := (ub p40 _ (by first | exact Bx.set_same _ _ _ | (simp only [Bx.set_same]; rfl)) (by first | decide | exact List.mem_singleton.2 rfl | simp)).1; exact putL kq ltq hq9 (id100 i) _ HQ.out.1 [⟨k, false, !b⟩] 1 1 rfl (roles1 _ kp40) (fun _ b o e => by cases e; exact nUp40) (by simp) HQ.out.2.2 (HQ.out.2.1 _ HV.out))); rintro v33 ⟨wI, TI, hI⟩; replace gK := (goodVG (.int .i64 0) g (i + 1) (chK k l (i + 1))) v33; obtain ⟨rfl, _⟩ := hI.k; (try clear hI TI wI); (try simp only [Act.put, List.setIfInBounds_toArray, List.set_cons_zero, List.set_cons_succ]))
          (refine TG.v0 (v := ?v34) (by simp only [List.getElem?_toArray, List.getElem?_cons_succ, List.getElem?_cons_zero]; rfl) rfl ?hw34 (fun w1 => ?hy34) ?hn34; (case hw34 => rfl); (case hy34 => (go_simp; (try with_reducible rfl))); (try simp only [Act.put, List.setIfInBounds_toArray, List.set_cons_zero, List.set_cons_succ]))
          refine TG.nil (fun w4 ⟨TR, hr⟩ => ?_)
          have kk := hr.mod.at kk (by intro hT; first | exact hT | exact absurd hT (by assumption) | omega | (simp only at hT; omega))
          have kl := hr.mod.at kl (by intro hT; first | exact hT | exact absurd hT (by assumption) | omega | (simp only at hT; omega))
          have kp40 := hr.box p40 _ (by first | exact Bx.set_same _ _ _ | (simp only [Bx.set_same]; rfl)); dsimp only [Value.cells] at kp40; obtain ⟨gp40, nTp40, kp40⟩ := kp40
          clear gK
          have hA4 : RAt g (i + 1) (chK k l (i + 1)) TR w4 := ⟨hr.k.2, hr.lt⟩
          have m4 : Mod (fun _ => False) w w4 := HMm.out.then hr.mod (fun j hj h => by have := HR.out.2 j h; have := HP.out; omega)
          have h2 : ∀ j, TR j → p2 < j := fun j hj => by
            rcases Nat.lt_or_ge j wr.heap.size with h | h
            · exact HR.out.2 j (hr.old j h hj)
            · have := lt_size (by assumption : wr.heap[p2]? = _); omega
          have HR' := Lib.hid (And.intro hA4 h2)
          have HM' := Lib.hid m4
          clear hr hA4 m4 h2
          go_wp2_with fail
          go_roundw
          case rel => exact ⟨i + 1, TR, by omega, by go_num, HR', kk, HM'⟩
          case measure => simp [intOf]; omega
      · have hE : i = l.length := by omega
        subst hE
        have hdi : decide ((l.length : Int) < (l.length : Int)) = false := decide_eq_false (by omega)
        clear hlt kk hi
        go_wp2_with fail
        go_loopw [7] (fun s7 ws => ∃ i : Nat, i ≤ l.length ∧ s7 = .int .i64 i ∧ ws = wr) (fun s7 _ => l.length - (intOf s7).toNat)
        case atStart => exact ⟨0, Nat.zero_le _, rfl, by first | rfl | trivial⟩
        case round =>
          obtain ⟨i, hi, rfl, rfl⟩ := hrel
          by_cases hlt : i < l.length
          · have hdj : decide ((i : Int) < (l.length : Int)) = true := decide_eq_true (by omega)
            have hw1 : IntKind.i64.wrap ((100 : Int) + (i : Int)) = 100 + (i : Int) := by
              rw [IntKind.wrap_i64]
              omega
            go_wp2_with fail
            go_at_call 11
            refine (chainL HR.out.1.1 HR.out.1.2 (chN k l i) (List.mem_map.2 ⟨i, List.mem_range.2 hlt, rfl⟩) (100 + (i : Int)) 100 (id100_toInt (by omega)) rfl).mono ?_
            rintro e w5 ⟨rfl, rfl⟩
            go_wp2_with fail
            go_roundw
            case rel => exact ⟨i + 1, by omega, by go_num, by first | rfl | trivial⟩
            case measure => simp [intOf]; omega
          · have hE : i = l.length := by omega
            subst hE
            have i1 := bsI 100
            clear hlt
            have hR1 : readyR (chK k l l.length) = [100] := by
              obtain ⟨m, hm⟩ : ∃ m, l.length = m + 1 := ⟨l.length - 1, by omega⟩
              rw [hm]
              exact chK_ready k l m
            have HRR := Lib.hid hR1
            clear hR1
            go_upto_region 15 with fail
            refine wp_gpass0 (T0 := T) (K := GL g l.length (chK k l l.length)) (κ := fun i => [0, 6, 3, 6, 0, 6, 0, 0].getD i 0) (υ := fun i => [[], [], [], [64], [], [], [], []].getD i []) [0, 1, 2, 3, 4, 5, 6, 7] (by kernel_rfl) (by kernel_rfl) (goodGL g l.length (chK k l l.length)).cl (HR.out.1.1) (HR.out.1.2) ?_
            have gK := goodGL g l.length (chK k l l.length)
            (refine TG.v0 (v := ?v35) (by simp only [List.getElem?_toArray, List.getElem?_cons_succ, List.getElem?_cons_zero]; rfl) rfl ?hw35 (fun w1 => ?hy35) ?hn35; (case hw35 => rfl); (case hy35 => (go_simp; (try with_reducible rfl))); (try simp only [Act.put, List.setIfInBounds_toArray, List.set_cons_zero, List.set_cons_succ]))
            (refine TG.callM (f := ?f36) (args := ?r36) (RowL [100]) (goodRow [100]) gK (by simp only [List.getElem?_toArray, List.getElem?_cons_succ, List.getElem?_cons_zero]; rfl) rfl ?hw36 (fun w1 => ?hy36) (fun T wq kq ltq hSq ub => ?hsp36) ?hn36; (case hw36 => rfl); (case hy36 => (go_simp; (first | with_reducible rfl | (constructor <;> with_reducible rfl)))); (case hsp36 => (exact readyL kq ltq [100] HRR.out)); rintro v36 ⟨wI, TI, hI⟩; replace gK := gK.and ((goodRow [100]) v36); skip; (try clear hI TI wI); (try simp only [Act.put, List.setIfInBounds_toArray, List.set_cons_zero, List.set_cons_succ]))
            (refine TG.bslice (by simp only [List.getElem?_toArray, List.getElem?_cons_succ, List.getElem?_cons_zero]; rfl) rfl ?hw37 rfl rfl ?hx37 i1 (fun p64 hp64 _ => ?hn37); (case hw37 => rfl); (case hx37 => (simp only [List.map_toArray, List.map_cons, List.map_nil, Act.eval, Array.getD_eq_getD_getElem?, List.getElem?_toArray, List.getElem?_cons_succ, List.getElem?_cons_zero, Option.getD_some]; (try rfl))); (try simp only [Act.put, List.setIfInBounds_toArray, List.set_cons_zero, List.set_cons_succ]))
            (refine TG.callN (f := ?f38) (args := ?r38) (fun v => v = .bool true) gK (by simp only [List.getElem?_toArray, List.getElem?_cons_succ, List.getElem?_cons_zero]; rfl) rfl ?hw38 (fun w1 => ?hy38) (fun T wq kq ltq hSq ub => ?hsp38) ?hn38; (case hw38 => rfl); (case hy38 => (go_simp; (first | with_reducible rfl | (constructor <;> with_reducible rfl)))); (case hsp38 => (have kp64 := ub.box (p := p64) (by first | exact Bx.set_same _ _ _ | (simp only [Bx.set_same]; rfl)) (by first | decide | exact List.mem_singleton.2 rfl | simp); dsimp only [Value.cells] at kp64; have nUp64 := (ub p64 _ (by first | exact Bx.set_same _ _ _ | (simp only [Bx.set_same]; rfl)) (by first | decide | exact List.mem_singleton.2 rfl | simp)).1; exact sameR 1 rfl kq.2 (row1 100 rfl kp64) (by decide))); rintro v38 hC; obtain rfl := hC; (try simp only [Act.put, List.setIfInBounds_toArray, List.set_cons_zero, List.set_cons_succ]))
            (refine TG.v0 (v := ?v39) (by simp only [List.getElem?_toArray, List.getElem?_cons_succ, List.getElem?_cons_zero]; rfl) rfl ?hw39 (fun w1 => ?hy39) ?hn39; (case hw39 => rfl); (case hy39 => (go_simp; (try with_reducible rfl))); (try simp only [Act.put, List.setIfInBounds_toArray, List.set_cons_zero, List.set_cons_succ]))
            (refine TG.callN (f := ?f40) (args := ?r40) (fun v => v = .bool true) gK (by simp only [List.getElem?_toArray, List.getElem?_cons_succ, List.getElem?_cons_zero]; rfl) rfl ?hw40 (fun w1 => ?hy40) (fun T wq kq ltq hSq ub => ?hsp40) ?hn40; (case hw40 => rfl); (case hy40 => (go_simp; (first | with_reducible rfl | (constructor <;> with_reducible rfl)))); (case hsp40 => (exact (lives_c _).mono (fun e w' h => ⟨_, h.1, rfl, h.2⟩))); rintro v40 hC; obtain rfl := hC; (try simp only [Act.put, List.setIfInBounds_toArray, List.set_cons_zero, List.set_cons_succ]))
            (refine TG.v0 (v := ?v41) (by simp only [List.getElem?_toArray, List.getElem?_cons_succ, List.getElem?_cons_zero]; rfl) rfl ?hw41 (fun w1 => ?hy41) ?hn41; (case hw41 => rfl); (case hy41 => (go_simp; (try with_reducible rfl))); (try simp only [Act.put, List.setIfInBounds_toArray, List.set_cons_zero, List.set_cons_succ]))
            (refine TG.v0 (v := ?v42) (by simp only [List.getElem?_toArray, List.getElem?_cons_succ, List.getElem?_cons_zero]; rfl) rfl ?hw42 (fun w1 => ?hy42) ?hn42; (case hw42 => rfl); (case hy42 => (go_simp; (try with_reducible rfl))); (try simp only [Act.put, List.setIfInBounds_toArray, List.set_cons_zero, List.set_cons_succ]))
            refine TG.nil (fun w9 ⟨TR, hr⟩ => ?_)
            have kp64 := hr.box p64 _ (by first | exact Bx.set_same _ _ _ | (simp only [Bx.set_same]; rfl)); dsimp only [Value.cells] at kp64; obtain ⟨gp64, nTp64, kp64⟩ := kp64
            clear gK
            have m9 := HMm.out.then hr.mod (fun j hj h => by have := HR.out.2 j h; have := HP.out; omega)
            clear hr
            go_wp2_with fail
            go_ret
            exact ⟨rfl, m9⟩
theorem chainLaw_s (k : Key) (a : Option Addr) (l : List Bool) (c : Nat) (w : World) (hl : SlAt boc 1 w a l) (ho : ∀ x ∈ l, True) (hz : l.length * 1 ≤ reachBytes) (hb : ∀ y, a = some y → y.block < w.heap.size ∨ l = []) (hx : l.length ≤ maxLen) : Calls Try.prog 3 #[.agg (kc k), .slice a l.length c] w fun e w' => e = .returned (.bool true) ∧ Mod (fun _ => False) w w' :=
  chainLaw_c k a l c w hl (fun b o e => hb _ e) (by simp only [reachBytes] at hz; omega)
end Go.Proofs.Ytffcnnogkpdinaa
