/- LocksPlay: whatever is taken and given back, by whichever workers, each answer, and who may take what, is the chapter's. -/
import Derived.Test.YtleenmldlbccmaaPlayA
import Derived.Deep.DeepCutAuto
import Derived.Deep.CutRange
namespace Go.Proofs.Ytleenmldlbccmaa
open Go.RowKit
open Go.ChangeMaps (setBlock)
set_option linter.unusedSimpArgs false
set_option linter.unusedVariables false
theorem ldAct (w : World) (b o : Nat) : (Instr.loadAt 34 (.pointer (some ⟨b, o, none⟩))).run Try.prog w =
      match w.heap[b]? with
      | some (.cells cs _ _) => if o + 3 ≤ cs.size then .ok (.agg (cs.extract o (o + 3))) w else farL Try.prog w 34 b o
      | _ => farL Try.prog w 34 b o := load_rule (d := _) Try.underlying34 rfl (by kernel_rfl) w b o
theorem stAct (w : World) (b o : Nat) (xs : Array Value) : (Instr.storeAt 34 (.pointer (some ⟨b, o, none⟩)) (.agg xs)).run Try.prog w =
      match w.heap[b]? with
      | some (.cells cs U (0, 0)) =>
        if o + 3 ≤ cs.size ∧ xs.size = 3 ∧ xs.all (·.oneCell') = true then .ok () (setBlock w b (.cells (if o = 0 ∧ 3 = cs.size then xs else wr cs o xs.toList) U (0, 0))) else farS Try.prog w 34 b o (.agg xs)
      | _ => farS Try.prog w 34 b o (.agg xs) := store_rule (by kernel_rfl) w b o xs
theorem wlAct (dst : Option Tmp) (x : Operand) (ty : TypeId) (pos : String) (after : Array Edge) (g : Option (Nat × Bool)) (a : Act) (w : World) (K : Act → World → Prop) (Q : Exit → Act → World → Prop) :
    Oper.wp Try.prog { dst := dst, op := .load 34 x, type := ty, pos := pos, after := after, guard := g } a w K Q =
      (match a.eval x with
      | .pointer (some ⟨b, o, none⟩) =>
        (match w.heap[b]? with
        | some (.cells cs _ _) => if o + 3 ≤ cs.size then K (a.put dst (.agg (cs.extract o (o + 3)))) w else farW Try.prog { dst := dst, op := .load 34 x, type := ty, pos := pos, after := after, guard := g } a w K Q
        | _ => farW Try.prog { dst := dst, op := .load 34 x, type := ty, pos := pos, after := after, guard := g } a w K Q)
      | _ => farW Try.prog { dst := dst, op := .load 34 x, type := ty, pos := pos, after := after, guard := g } a w K Q) := wp_load_rule (d := _) Try.underlying34 rfl (by kernel_rfl) dst x ty pos after g a w K Q
theorem alAct (w : World) : (Instr.alloc 34 true (.tuple #[])).run Try.prog w = .ok (.pointer (some ⟨w.heap.size, 0, none⟩)) (w.alloc (.cells #[.bool false,.slice none 0 0,.int .i64 0] 34)) :=
  run_alloc_row (z := .agg #[.bool false,.slice none 0 0,.int .i64 0]) (fun w => by kernel_rfl) w
attribute [local go_sem ↓] wlAct ldAct stAct wlLock ldLock stLock wlKey wlRole wlSpot wlCounts wlBits ldKey ldRole ldSpot ldCounts ldBits stKey stRole stSpot stCounts stBits eqCounts eqBits eqKey1 eqLock eqRole1
attribute [local go_sem] lkn_size lkn_key lkn_all lkn_b lkn_n lkn_b' lkn_n' lkn_one zLock_size eqBlk zKey_size zRole_size eqHeld cell_blk frozen_blk kc_ext rc_size rc_key rc_all rc_s rc_w rc_s' rc_w' rc_one sc_size sc_key sc_all sc_n sc_n' sc_one one_int one_bool one_ptr one_slice one_map zSpot_size kc_one kc_one0 Value.cells
/-- The roles from k on lie in the row at a. -/
def RFrom (w : World) (a : Option Addr) (q : List Role) (k : Nat) : Prop := ∀ i x, k ≤ i → q[i]? = some x → ∃ g C, a = some ⟨g, 0, none⟩ ∧ w.heap[g]? = some (.cells C 44 (0, 0)) ∧ C.extract (i * 34) (i * 34 + 34) = rcr x ∧ i * 34 + 34 ≤ C.size
theorem RFrom.start {w : World} {base c : Nat} {a : Option Addr} {q : List Role} (h : SlOwn rcr 34 44 w base (.slice a q.length c) q) : RFrom w a q 0 := fun i x _ hx => by
  obtain ⟨a', c', hv, hat, _, _⟩ := h.at roleT
  cases hv
  rcases h.2 with ⟨hv, hn⟩ | ⟨g, cap, cur, hv, hb, hg, _⟩
  · have : q = [] := List.eq_nil_of_length_eq_zero hn
    subst this
    simp at hx
  · cases hv
    obtain ⟨b, o, C, U, fr, ha, hb', he, hs⟩ := hat.block hx
    cases ha
    rw [hg] at hb'
    cases hb'
    rw [Nat.zero_add] at he hs
    exact ⟨g, cur, rfl, hg, he, hs⟩
theorem RFrom.mod {w w' : World} {a : Option Addr} {q : List Role} {k : Nat} {S : Nat → Prop} (h : RFrom w a q k) (hm : Mod S w w') (hS : ∀ g, a = some ⟨g, 0, none⟩ → ¬ S g) : RFrom w' a q k := fun i x hk hx => by
  obtain ⟨g, C, ha, hg, he, hs⟩ := h i x hk hx
  exact ⟨g, C, ha, hm.at hg (hS g ha), he, hs⟩
theorem extract_set_lt {C : Array Value} {o a b : Nat} {v : Value} (h : o < a) : (C.setIfInBounds o v).extract a b = C.extract a b := by
  apply Array.ext_getElem?
  intro i
  simp only [Array.getElem?_extract, Array.size_setIfInBounds]
  split
  · rw [Array.getElem?_setIfInBounds_ne (by omega)]
  · rfl
theorem RFrom.mod0 {w w' : World} {a : Option Addr} {q : List Role} {k : Nat} (h : RFrom w a q k) (hm : Mod (fun _ => False) w w') : RFrom w' a q k := h.mod hm (fun _ _ h => h)
theorem RFrom.step {w w' : World} {g : Nat} {C : Array Value} {q : List Role} {k : Nat} {v : Value} (h : RFrom w (some ⟨g, 0, none⟩) q k) (hg : w.heap[g]? = some (.cells C 44 (0, 0))) (hg' : w'.heap[g]? = some (.cells (C.setIfInBounds (k * 34) v) 44 (0, 0))) : RFrom w' (some ⟨g, 0, none⟩) q (k + 1) := fun i x hk hx => by
  obtain ⟨g', C', ha, hg2, he, hs⟩ := h i x (by omega) hx
  cases ha
  rw [hg] at hg2
  cases hg2
  refine ⟨g, _, rfl, hg', ?_, by rw [Array.size_setIfInBounds]; exact hs⟩
  rw [extract_set_lt (by omega)]
  exact he
theorem first_byte {C : Array Value} {o : Nat} {x : Role} (h : C.extract o (o + 34) = rcr x) : ∃ b : UInt8, C[o]? = some (.int .u8 (b.toNat : Int)) := by
  have hl : x.k.l.length = 32 := x.k.h
  refine ⟨x.k.l[0], ?_⟩
  have h1 : (rcr x)[0]? = some (.int .u8 ((x.k.l[0]).toNat : Int)) := by
    unfold rcr rc kx kc
    rw [Array.getElem?_append_left (by simp [hl])]
    simp only [List.getElem?_toArray, List.getElem?_map]
    rw [List.getElem?_eq_getElem (by omega)]
    rfl
  have := cellC h h1
  simpa using this
theorem play_bad (n : Int) (a : Option Addr) (l : List Act') (c : Nat) (a2 : Option Addr) (ask : List Role) (c2 : Nat) (w : World) (hl : SlAt acv 3 w a l) (hlm : l.length ≤ 140737488355328) (hok : ∀ x ∈ l, ActOk' w x) (hlm2 : ask.length ≤ 140737488355328) (hn : n < 1 ∨ 64 < n) :
    Calls Try.prog 3 #[.int .i64 n, .slice a l.length c, .slice a2 ask.length c2] w fun e w' => e = .returned (.bool true) ∧ Mod (fun _ => False) w w' := by
  have hgr := great_c a l c w hl hlm (fun x hx => len_small (hok x hx))
  have HG := Lib.hid hgr
  have HN := Lib.hid hn
  clear hgr hn
  by_cases hbig : 100 < ask.length
  · have hbg : (100 : Int) < (ask.length : Int) := by omega
    go_enter Try.func3, Try.ntmps3
    go_wp2_with fail
    go_at_call 9
    refine HG.out.mono ?_
    rintro e w' ⟨b, rfl, _, rfl⟩
    cases b
    all_goals
      go_wp2_with (go_at_call 10; refine (lives_c _).mono ?_; rintro e w' ⟨rfl, hm2⟩)
      go_ret
      exact ⟨rfl, hm2⟩
  · have hbg : ¬ (100 : Int) < (ask.length : Int) := by omega
    go_enter Try.func3, Try.ntmps3
    go_wp2_with fail
    go_at_call 9
    refine HG.out.mono ?_
    rintro e w' ⟨b, rfl, hsz, rfl⟩
    cases b with
    | true =>
      go_wp2_with (go_at_call 10; refine (lives_c _).mono ?_; rintro e w' ⟨rfl, hm2⟩)
      go_ret
      exact ⟨rfl, hm2⟩
    | false =>
      go_wp2_with fail
      go_at_call 11
      refine (new_bad n _ HN.out).mono ?_
      rintro e w1 ⟨rfl, m1⟩
      go_wp2_with fail
      go_at_call 12
      refine (rnew_bad n _ HN.out).mono ?_
      rintro e w2 ⟨rfl, m2⟩
      go_wp2_with (go_at_call 10; refine (lives_c _).mono ?_; rintro e w' ⟨rfl, hm2⟩)
      go_ret
      exact ⟨rfl, (m1.trans m2).trans hm2⟩
set_option maxRecDepth 20000 in
set_option maxHeartbeats 12800000 in
theorem play_c (N : Nat) (a : Option Addr) (l : List Act') (c : Nat) (a2 : Option Addr) (ask : List Role) (c2 : Nat) (w : World) (hl : SlAt acv 3 w a l) (hlm : l.length ≤ 140737488355328) (hok : ∀ x ∈ l, ActOk' w x) (hask : RolesAt w a2 ask) (hlm2 : ask.length ≤ 140737488355328) (hN1 : 1 ≤ N) (hN2 : N ≤ 64) :
    Calls Try.prog 3 #[.int .i64 (N : Int), .slice a l.length c, .slice a2 ask.length c2] w fun e w' => e = .returned (.bool true) ∧ Mod (fun _ => False) w w' := by
  have hgr := great_c a l c w hl hlm (fun x hx => len_small (hok x hx))
  have HG := Lib.hid hgr
  have HOK := Lib.hid hok
  clear hgr hok
  by_cases hbig : 100 < ask.length
  · have hbg : (100 : Int) < (ask.length : Int) := by omega
    go_enter Try.func3, Try.ntmps3
    go_wp2_with fail
    go_at_call 9
    refine HG.out.mono ?_
    rintro e w' ⟨b, rfl, _, rfl⟩
    cases b
    all_goals
      go_wp2_with (go_at_call 10; refine (lives_c _).mono ?_; rintro e w' ⟨rfl, hm2⟩)
      go_ret
      exact ⟨rfl, hm2⟩
  · have hbg : ¬ (100 : Int) < (ask.length : Int) := by omega
    have hal100 : ask.length ≤ 100 := by omega
    go_enter Try.func3, Try.ntmps3
    go_wp2_with fail
    go_at_call 9
    refine HG.out.mono ?_
    rintro e w' ⟨b, rfl, hsz, rfl⟩
    clear HG
    cases b with
    | true =>
      go_wp2_with (go_at_call 10; refine (lives_c _).mono ?_; rintro e w' ⟨rfl, hm2⟩)
      go_ret
      exact ⟨rfl, hm2⟩
    | false =>
      replace hsz := hsz rfl
      go_wp2_with fail
      go_at_call 11
      refine (new_c N w hN1 hN2).mono ?_
      rintro e w1 ⟨t, hb, wb, rfl, ht, hhb, hwb, hT, m1⟩
      obtain ⟨Lt, Lh, Lw⟩ := hT.lt
      have HT := Lib.hid hT
      clear hT
      go_wp2_with fail
      go_at_call 12
      refine (rnew_c N _ hN1 hN2).mono ?_
      rintro e w2 ⟨tb, rfl, htb, hR, hs2, m2⟩
      have m12 := m1.trans m2
      have htw : w.heap.size ≤ tb := by have := m1.size; omega
      have HR := Lib.hid hR
      clear hR
      go_wp2_with fail
      go_loopw [11] (fun s11 wr => ∃ (i : Nat) (v : Value) (L : List Lk), i ≤ l.length ∧ s11 = .int .i64 i ∧ TabAt wr t hb wb N L ∧ RTab wr tb N (tb + 1) v L ∧ Hid (L.length ≤ (allOf (l.take i)).length) ∧ tb + 1 ≤ wr.heap.size ∧ Mod (fun _ => False) w wr) (fun s11 _ => l.length - (intOf s11).toNat)
      case atStart => exact ⟨0, _, [], by omega, rfl, HT.out.mod0 m2, HR.out, Lib.hid (by simp), hs2, m12⟩
      case round =>
        clear HT HR m12 m1 m2
        obtain ⟨i, v, L, hi, rfl, hT, hR, HLn, hge, hm⟩ := hrel
        obtain ⟨wa, rfl⟩ : ∃ wa : World, wa = wr := ⟨_, rfl⟩
        by_cases hlt : i < l.length
        · obtain ⟨x, hx⟩ : ∃ x, l[i]? = some x := ⟨_, List.getElem?_eq_getElem hlt⟩
          obtain ⟨g, o, C, U, fr, rfl, kl, he, hle⟩ := (hl.mod0 hm).block hx
          have HX := HOK.out x (List.mem_of_getElem? hx)
          have hxr : RolesAt w x.s.a x.s.l := HX.1.1
          have hxb := HX.1.2.2.2.1
          have HS := Lib.hid (allOf_snoc l i x hx)
          have hxl : x.s.l.length ≤ 400 := Nat.le_trans (len_of_mem (List.mem_of_getElem? hx)) hsz
          have hLl : L.length ≤ 400 := by have := allOf_len l i; have := HLn.out; omega
          clear hx HX
          obtain ⟨xb, ⟨xa, q, xc⟩, xn⟩ := x
          dsimp only at hxr hxl HS hxb
          simp only [acv, Sl.v] at he
          have hRo := hR.own.lt
          obtain ⟨Lt2, Lh2, Lw2⟩ := hT.lt
          have HT := Lib.hid hT
          have HR := Lib.hid hR
          clear hT hR
          go_upto_region 12 with fail
          have Lkl := lt_size kl
          refine wp_pass0 (C := fun _ _ _ => False) (κ := fun i => [0, 0, 0, 1, 3, 4].getD i 0) [0, 1, 2, 3, 4, 5] (by kernel_rfl) (by kernel_rfl) (fun _ _ d _ _ h => by cases d <;> exact h) ?_
          (refine TD.val0 (v := ?v1) (by simp only [List.getElem?_toArray, List.getElem?_cons_succ, List.getElem?_cons_zero]; rfl) rfl ?hw1 (fun w1 => ?hy1) ?hn1; (case hw1 => rfl); (case hy1 => (go_simp; (try with_reducible rfl))); (try simp only [Act.put, List.setIfInBounds_toArray, List.set_cons_zero, List.set_cons_succ]))
          (refine TD.val0 (v := ?v2) (by simp only [List.getElem?_toArray, List.getElem?_cons_succ, List.getElem?_cons_zero]; rfl) rfl ?hw2 (fun w1 => ?hy2) ?hn2; (case hw2 => rfl); (case hy2 => (go_simp; (try with_reducible rfl))); (try simp only [Act.put, List.setIfInBounds_toArray, List.set_cons_zero, List.set_cons_succ]))
          (refine TD.val0 (v := ?v3) (by simp only [List.getElem?_toArray, List.getElem?_cons_succ, List.getElem?_cons_zero]; rfl) rfl ?hw3 (fun w1 => ?hy3) ?hn3; (case hw3 => rfl); (case hy3 => (go_simp; (try with_reducible rfl))); (try simp only [Act.put, List.setIfInBounds_toArray, List.set_cons_zero, List.set_cons_succ]))
          (refine TD.load (v := ?v4) (p := ?p4) (Mod.refl _ _) (by simp only [List.getElem?_toArray, List.getElem?_cons_succ, List.getElem?_cons_zero]; rfl) rfl ?hw4 rfl ?hx4 (fun wq hSq => ?hy4) ?hn4; (case hw4 => rfl); (case hx4 => (simp only [Act.eval, Array.getD_eq_getD_getElem?, List.getElem?_toArray, List.getElem?_cons_succ, List.getElem?_cons_zero, Option.getD_some]; (try rfl))); (case hy4 => (have klq := hSq.at kl (fun h => h); go_simp; (try with_reducible rfl))); (try simp only [Act.put, List.setIfInBounds_toArray, List.set_cons_zero, List.set_cons_succ]))
          (refine TD.allocB (by simp only [List.getElem?_toArray, List.getElem?_cons_succ, List.getElem?_cons_zero]; rfl) rfl ?hw5 rfl rfl alAct (fun p12 hp12 => ?hn5); (case hw5 => rfl); (try simp only [Act.put, List.setIfInBounds_toArray, List.set_cons_zero, List.set_cons_succ]))
          (refine TD.storeB (d := ?d6) (T := ?T6) (y := ?y6) (p := ?p6) (b := ?b6) (v := ?v6) (by simp only [List.getElem?_toArray, List.getElem?_cons_succ, List.getElem?_cons_zero]; rfl) rfl ?hw6 ?hd6 ?hop6 ?hev6 ?hx6 ?hb6 ?htag6 (fun w1 hb1 => ?hy6) ?hn6; (case hw6 => rfl); (case hd6 => rfl); (case hop6 => rfl); (case hev6 => (simp only [Act.eval, Array.getD_eq_getD_getElem?, List.getElem?_toArray, List.getElem?_cons_succ, List.getElem?_cons_zero, Option.getD_some]; (try rfl))); (case hx6 => (simp only [Act.eval, Array.getD_eq_getD_getElem?, List.getElem?_toArray, List.getElem?_cons_succ, List.getElem?_cons_zero, Option.getD_some]; (try rfl))); (case hb6 => first | exact Bx.set_same _ _ _ | (simp only [Bx.set_same]; rfl)); (case hy6 => (go_simp; (try with_reducible rfl))); (try simp only [Act.put, List.setIfInBounds_toArray, List.set_cons_zero, List.set_cons_succ]))
          refine TD.nil (fun w3 hr => ?_)
          have kl := hr.mod.at kl (fun h => h)
          have kp12 := hr.box p12 _ (by first | exact Bx.set_same _ _ _ | (simp only [Bx.set_same]; rfl)); dsimp only [Value.cells] at kp12; obtain ⟨gp12, kp12⟩ := kp12
          have LP := Lib.hid (lt_size kp12)
          have mm3 := hm.then0 hr.mod
          have hT3 := HT.out.mod0 hr.mod
          have hR3 := HR.out.mod0 hr.mod
          have hs3 := hr.mod.size
          obtain ⟨v4, w4, hap, hO4, m4', _⟩ := SlOwn.append roleT (c := xc) (SlOwn.nil w3 w3.heap.size) (hxr.mod0 mm3) (by simp; omega) (by omega) (Nat.le_refl _) 23
          rw [List.nil_append] at hO4
          have m4 : Mod (fun _ => False) w3 w4 := m4'.mono (fun _ _ e => by cases e)
          obtain ⟨ar, cr, rfl, hq4, har, _⟩ := hO4.at roleT
          have HO4 := Lib.hid hO4
          have hs4 := m4.size
          clear hO4 m4'
          go_upto_region 13 with fail
          refine region_seq 4 rfl ?_
          simp only [List.range, List.range.loop]
          (refine sq_val (v := ?v7) (by simp only [List.getElem?_toArray, List.getElem?_cons_succ, List.getElem?_cons_zero]; rfl) ?hw7 ?hy7 ?hn7; (case hw7 => rfl); (case hy7 => (go_simp; (try with_reducible rfl))); (try simp only [Act.put, List.setIfInBounds_toArray, List.set_cons_zero, List.set_cons_succ]))
          (refine sq_load (v := ?v8) (p := ?p8) (by simp only [List.getElem?_toArray, List.getElem?_cons_succ, List.getElem?_cons_zero]; rfl) ?hw8 rfl ?hx8 ?hy8 ?hn8; (case hw8 => rfl); (case hx8 => (simp only [Act.eval, Array.getD_eq_getD_getElem?, List.getElem?_toArray, List.getElem?_cons_succ, List.getElem?_cons_zero, Option.getD_some]; (try rfl))); (case hy8 => (go_simp; (try with_reducible rfl))); (try simp only [Act.put, List.setIfInBounds_toArray, List.set_cons_zero, List.set_cons_succ]))
          (refine sq_append (by simp only [List.getElem?_toArray, List.getElem?_cons_succ, List.getElem?_cons_zero]; rfl) ?hw9 rfl ?hx9 ?hz9 hap ?hn9; (case hw9 => rfl); (case hx9 => (simp only [Act.eval, Array.getD_eq_getD_getElem?, List.getElem?_toArray, List.getElem?_cons_succ, List.getElem?_cons_zero, Option.getD_some]; (try rfl))); (case hz9 => (simp only [Act.eval, Array.getD_eq_getD_getElem?, List.getElem?_toArray, List.getElem?_cons_succ, List.getElem?_cons_zero, Option.getD_some]; (try rfl))); (try simp only [Act.put, List.setIfInBounds_toArray, List.set_cons_zero, List.set_cons_succ]))
          (refine sq_val (v := ?v10) (by simp only [List.getElem?_toArray, List.getElem?_cons_succ, List.getElem?_cons_zero]; rfl) ?hw10 ?hy10 ?hn10; (case hw10 => rfl); (case hy10 => (go_simp; (try with_reducible rfl))); (try simp only [Act.put, List.setIfInBounds_toArray, List.set_cons_zero, List.set_cons_succ]))
          refine sq_nil ?_
          clear hap
          have kp12 := m4.at0 kp12
          have hT4 := hT3.mod0 m4
          have hR4 := hR3.mod0 m4
          have mm4 := mm3.trans m4
          have hxr4 := hxr.mod0 mm4
          have hsz5 : wa.heap.size ≤ w4.heap.size := by omega
          generalize hM : maskOf (freeB L q) N = M at *
          have HM := Lib.hid hM
          clear hM hT3 hR3
          have HSP : Hid (∀ b o, xa = some ⟨b, o, none⟩ → (b ≠ tb ∧ v.ownBlock ≠ some b ∧ b < wa.heap.size) ∨ q = []) := Lib.hid (fun b o e => by
            rcases hxb _ e with h | h
            · have h : b < w.heap.size := h
              have hsw := hm.size
              exact .inl ⟨by omega, fun e2 => by have := (hRo _ e2).1; omega, by omega⟩
            · exact .inr h)
          go_upto_region 14 with fail
          have Lkp12 := lt_size kp12
          refine wp_pass (C := fun _ _ v => v = .int .u64 (M : Int)) (κ := fun i => [0, 0, 2, 0, 0, 1, 2, 0].getD i 0) [0, 1, 2, 3, 4, 5, 6, 7] (by kernel_rfl) (by kernel_rfl) (fun _ _ d _ _ h => by cases d <;> exact h) ?_
          (refine TD.val0 (v := ?v11) (by simp only [List.getElem?_toArray, List.getElem?_cons_succ, List.getElem?_cons_zero]; rfl) rfl ?hw11 (fun w1 => ?hy11) ?hn11; (case hw11 => rfl); (case hy11 => (go_simp; (try with_reducible rfl))); (try simp only [Act.put, List.setIfInBounds_toArray, List.set_cons_zero, List.set_cons_succ]))
          (refine TD.val0 (v := ?v12) (by simp only [List.getElem?_toArray, List.getElem?_cons_succ, List.getElem?_cons_zero]; rfl) rfl ?hw12 (fun w1 => ?hy12) ?hn12; (case hw12 => rfl); (case hy12 => (go_simp; (try with_reducible rfl))); (try simp only [Act.put, List.setIfInBounds_toArray, List.set_cons_zero, List.set_cons_succ]))
          (refine TD.call (f := ?f13) (args := ?r13) (Mod.refl _ _) (by simp only [List.getElem?_toArray, List.getElem?_cons_succ, List.getElem?_cons_zero]; rfl) rfl ?hw13 (fun w1 => ?hy13) ?hsp13 ?hn13; (case hw13 => rfl); (case hy13 => (go_simp; (first | with_reducible rfl | (constructor <;> with_reducible rfl)))); (case hsp13 => (intro wq hSq; have kp12q := hSq.at kp12 (fun h => h); exact (threads_m t hb wb N L ar q cr wq (hT4.mod0 hSq) hN1 hN2 (RolesAt.mod0 hq4 hSq) (by omega)).mono (fun e w' h => ⟨_, h.1, by rw [HM.out], h.2⟩))); rintro _ rfl; (try simp only [Act.put, List.setIfInBounds_toArray, List.set_cons_zero, List.set_cons_succ]))
          (refine TD.val0 (v := ?v14) (by simp only [List.getElem?_toArray, List.getElem?_cons_succ, List.getElem?_cons_zero]; rfl) rfl ?hw14 (fun w1 => ?hy14) ?hn14; (case hw14 => rfl); (case hy14 => (go_simp; (try with_reducible rfl))); (try simp only [Act.put, List.setIfInBounds_toArray, List.set_cons_zero, List.set_cons_succ]))
          (refine TD.val0 (v := ?v15) (by simp only [List.getElem?_toArray, List.getElem?_cons_succ, List.getElem?_cons_zero]; rfl) rfl ?hw15 (fun w1 => ?hy15) ?hn15; (case hw15 => rfl); (case hy15 => (go_simp; (try with_reducible rfl))); (try simp only [Act.put, List.setIfInBounds_toArray, List.set_cons_zero, List.set_cons_succ]))
          (refine TD.load (v := ?v16) (p := ?p16) (Mod.refl _ _) (by simp only [List.getElem?_toArray, List.getElem?_cons_succ, List.getElem?_cons_zero]; rfl) rfl ?hw16 rfl ?hx16 (fun wq hSq => ?hy16) ?hn16; (case hw16 => rfl); (case hx16 => (simp only [Act.eval, Array.getD_eq_getD_getElem?, List.getElem?_toArray, List.getElem?_cons_succ, List.getElem?_cons_zero, Option.getD_some]; (try rfl))); (case hy16 => (have kp12q := hSq.at kp12 (fun h => h); go_simp; (try with_reducible rfl))); (try simp only [Act.put, List.setIfInBounds_toArray, List.set_cons_zero, List.set_cons_succ]))
          (refine TD.call (f := ?f17) (args := ?r17) (Mod.refl _ _) (by simp only [List.getElem?_toArray, List.getElem?_cons_succ, List.getElem?_cons_zero]; rfl) rfl ?hw17 (fun w1 => ?hy17) ?hsp17 ?hn17; (case hw17 => rfl); (case hy17 => (go_simp; (first | with_reducible rfl | (constructor <;> with_reducible rfl)))); (case hsp17 => (intro wq hSq; have kp12q := hSq.at kp12 (fun h => h); exact (rthreads_c tb N (tb + 1) v L xa q xc wq (hR4.mod0 hSq) hN2 (by omega) (hxr4.mod0 hSq) (by omega)).mono (fun e w' h => ⟨_, h.1, by rw [HM.out], h.2⟩))); rintro _ rfl; (try simp only [Act.put, List.setIfInBounds_toArray, List.set_cons_zero, List.set_cons_succ]))
          (refine TD.val0 (v := ?v18) (by simp only [List.getElem?_toArray, List.getElem?_cons_succ, List.getElem?_cons_zero]; rfl) rfl ?hw18 (fun w1 => ?hy18) ?hn18; (case hw18 => rfl); (case hy18 => (go_simp; (try with_reducible rfl))); (try simp only [Act.put, List.setIfInBounds_toArray, List.set_cons_zero, List.set_cons_succ]))
          refine TD.nil (fun w5 hr => ?_)
          have kp12 := hr.mod.at kp12 (fun h => h)
          have hq5 : RolesAt w5 ar q := RolesAt.mod0 hq4 hr.mod
          have hT5 := hT4.mod0 hr.mod
          have hR5 := hR4.mod0 hr.mod
          have hO5 := HO4.out.mod0 hr.mod
          have mm5 := mm4.then0 hr.mod
          have hs5 := hr.mod.size
          have HT5 := Lib.hid hT5
          have HR5 := Lib.hid hR5
          have HO5 := Lib.hid hO5
          clear hT5 hR5 hO5 hT4 hR4 HO4 HT HR
          go_upto_if 67 with fail
          go_cut [14, 15] from 45 to 138 (fun s14 s15 wx => ∃ (ev : Int) (v2 : Value) (L2 : List Lk), s14 = .int .i64 ev ∧ s15 = .int .i64 ev ∧ TabAt wx t hb wb N L2 ∧ RTab wx tb N (tb + 1) v2 L2 ∧ Hid (L2.length ≤ (allOf (l.take (i + 1))).length) ∧ SlOwn rcr 34 44 wx w3.heap.size (.slice ar q.length cr) q ∧ (∀ k, v2.ownBlock = some k → (Value.slice ar q.length cr).ownBlock ≠ some k) ∧ wx.heap[p12]? = some (.cells #[.bool xb, .slice xa q.length xc, .int .i64 xn] 34 (0, 0)) ∧ w5.heap.size ≤ wx.heap.size ∧ Mod (fun _ => False) w wx)
          case first =>
            cases xb with
            | true =>
              go_wp2_with fail
              go_at_call 15
              refine (a_rel t hb wb N L ar q cr xn _ HT5.out hN1 hN2 hq5 (by omega)).mono ?_
              rintro e w6 ⟨rfl, hT6, m6⟩
              have hs6 := m6.size
              have kp12 := m6.at kp12 (by omega)
              have hR6 := HR5.out.mod m6 (by omega) (fun k hk => by have := (hRo k hk).1; omega)
              have mm6 := mm5.then m6 (fun j hj e => by rcases e with rfl | rfl <;> omega)
              have hO6 := HO5.out.mod m6 (fun k hk e => by have := (HO5.out.lt k hk).1; rcases e with rfl | rfl <;> omega)
              have HR6 := Lib.hid hR6
              have HO6 := Lib.hid hO6
              have HT6 := Lib.hid hT6
              clear hR6 hO6 hT6 m6
              go_wp2_with fail
              go_at_call 16
              refine (b_rel tb N (tb + 1) v L xa q xc xn _ HR6.out hN2 (by omega) (hxr.mod0 mm6) (by omega)).mono ?_
              rintro e w7 ⟨rfl, ⟨v2, L2, hR7, hc7, hl7, ho7⟩, m7⟩
              have hs7 := m7.size
              have hv7 : ∀ k, v.ownBlock = some k → tb + 1 ≤ k ∧ k < wa.heap.size := hRo
              have kp12 := m7.at kp12 (fun e => by rcases e with e | e; omega; have := hv7 _ e; omega)
              have hT7 := (HT6.out.out m7 (fun e => by rcases e with e | e; omega; have := hv7 _ e; omega) (fun e => by rcases e with e | e; omega; have := hv7 _ e; omega) (fun e => by rcases e with e | e; omega; have := hv7 _ e; omega)).perm hc7
              have hO7 := HO6.out.mod m7 (fun k hk e => by have := (HO6.out.lt k hk).1; rcases e with e | e; omega; have := hv7 _ e; omega)
              have mm7 := mm6.then m7 (fun j hj e => by rcases e with e | e; omega; have := hv7 _ e; omega)
              have hn7 : ∀ k, v2.ownBlock = some k → (Value.slice ar q.length cr).ownBlock ≠ some k := fun k hk e => by
                have h1 := HO6.out.lt k e
                rcases ho7 k hk with h | h
                · have := hv7 k h; omega
                · omega
              have HF : Hid (TabAt w7 t hb wb N L2 ∧ RTab w7 tb N (tb + 1) v2 L2 ∧ SlOwn rcr 34 44 w7 w3.heap.size (.slice ar q.length cr) q ∧ (∀ k, v2.ownBlock = some k → (Value.slice ar q.length cr).ownBlock ≠ some k) ∧ Mod (fun _ => False) w w7) := Lib.hid ⟨hT7, hR7, hO7, hn7, mm7⟩
              have HL7 : Hid (L2.length ≤ (allOf (l.take (i + 1))).length) := Lib.hid (by rw [HS.out, List.length_append]; have := HLn.out; omega)
              clear hT7 hR7 hO7 hn7 hc7 ho7 hv7 m7 HT6 HR6 HO6
              go_wp2_with fail
              go_meet
              exact ⟨_, v2, L2, rfl, rfl, HF.out.1, HF.out.2.1, HL7, HF.out.2.2.1, HF.out.2.2.2.1, kp12, by omega, HF.out.2.2.2.2⟩
            | false =>
              go_wp2_with fail
              go_at_call 17
              refine (a_take t hb wb N L ar q cr xn _ HT5.out hN1 hN2 hq5 (by omega)).mono ?_
              rintro e w6 ⟨rfl, hT6, m6⟩
              have hs6 := m6.size
              have kp12 := m6.at kp12 (by omega)
              have HSEP : Hid (∀ b o, xa = some ⟨b, o, none⟩ → (b ≠ tb ∧ v.ownBlock ≠ some b ∧ b < w6.heap.size) ∨ q = []) := Lib.hid (fun b o e => by
                rcases HSP.out b o e with ⟨h1, h2, h3⟩ | h
                · exact .inl ⟨h1, h2, by omega⟩
                · exact .inr h)
              have hR6 := HR5.out.mod m6 (by omega) (fun k hk => by have := (hRo k hk).1; omega)
              have mm6 := mm5.then m6 (fun j hj e => by rcases e with rfl | rfl <;> omega)
              have hO6 := HO5.out.mod m6 (fun k hk e => by have := (HO5.out.lt k hk).1; rcases e with rfl | rfl <;> omega)
              have HR6 := Lib.hid hR6
              have HO6 := Lib.hid hO6
              have HT6 := Lib.hid hT6
              clear hR6 hO6 hT6 m6
              go_wp2_with fail
              go_at_call 18
              refine (b_take tb N (tb + 1) v L xa q xc xn _ HR6.out hN2 (by omega) (hxr.mod0 mm6) HSEP.out (by omega)).mono ?_
              rintro e w7 ⟨rfl, ⟨v2, L2, hR7, hc7, hl7, ho7⟩, m7⟩
              have hs7 := m7.size
              have hv7 : ∀ k, v.ownBlock = some k → tb + 1 ≤ k ∧ k < wa.heap.size := hRo
              have kp12 := m7.at kp12 (fun e => by rcases e with e | e; omega; have := hv7 _ e; omega)
              have hT7 := (HT6.out.out m7 (fun e => by rcases e with e | e; omega; have := hv7 _ e; omega) (fun e => by rcases e with e | e; omega; have := hv7 _ e; omega) (fun e => by rcases e with e | e; omega; have := hv7 _ e; omega)).perm hc7
              have hO7 := HO6.out.mod m7 (fun k hk e => by have := (HO6.out.lt k hk).1; rcases e with e | e; omega; have := hv7 _ e; omega)
              have mm7 := mm6.then m7 (fun j hj e => by rcases e with e | e; omega; have := hv7 _ e; omega)
              have hn7 : ∀ k, v2.ownBlock = some k → (Value.slice ar q.length cr).ownBlock ≠ some k := fun k hk e => by
                have h1 := HO6.out.lt k e
                rcases ho7 k hk with h | h
                · have := hv7 k h; omega
                · omega
              have HF : Hid (TabAt w7 t hb wb N L2 ∧ RTab w7 tb N (tb + 1) v2 L2 ∧ SlOwn rcr 34 44 w7 w3.heap.size (.slice ar q.length cr) q ∧ (∀ k, v2.ownBlock = some k → (Value.slice ar q.length cr).ownBlock ≠ some k) ∧ Mod (fun _ => False) w w7) := Lib.hid ⟨hT7, hR7, hO7, hn7, mm7⟩
              have HL7 : Hid (L2.length ≤ (allOf (l.take (i + 1))).length) := Lib.hid (by rw [HS.out, List.length_append]; have := HLn.out; omega)
              clear hT7 hR7 hO7 hn7 hc7 ho7 hv7 m7 HT6 HR6 HO6
              go_wp2_with fail
              go_meet
              exact ⟨_, v2, L2, rfl, rfl, HF.out.1, HF.out.2.1, HL7, HF.out.2.2.1, HF.out.2.2.2.1, kp12, by omega, HF.out.2.2.2.2⟩
          case rest =>
            clear HT5 HR5 HO5 HSP HLn hq5 kp12
            obtain ⟨ev, v2, L2, rfl, rfl, hT7, hR7, HL7, hO7, hn7, kp12, hs7, mm7⟩ := hcut
            have hL2 : L2.length ≤ 400 := by have := allOf_len l (i + 1); have := HL7.out; omega
            have kt7 := hR7.cells
            obtain ⟨aL7, cL7, rfl, _, _, _⟩ := hR7.own.at lockT
            have hE : ((L2.length : Int) == 0) = L2.isEmpty := by
              cases L2 <;> simp
              omega
            have hask7 := hask.mod0 mm7
            generalize hM : maskOf (freeB L2 ask) N = M2 at *
            have HM2 := Lib.hid hM
            clear hM
            go_upto_region 23 with fail
            generalize hbe : L2.isEmpty = be at *
            have HBE := Lib.hid hbe
            clear hbe
            have Lkp12 := lt_size kp12
            have Lkt7 := lt_size kt7
            refine wp_pass (C := fun f _ v => v = if f = 19 then .bool be else .int .u64 (M2 : Int)) (κ := fun i => [0, 0, 0, 0, 0, 0, 2, 0, 0, 2, 0, 0, 0, 0, 2, 0, 0, 0, 1, 0, 0, 0, 0].getD i 0) [0, 1, 2, 3, 4, 5, 6, 7, 8, 9, 10, 11, 12, 13, 14, 15, 16, 17, 18, 19, 20, 21, 22] (by kernel_rfl) (by kernel_rfl) (fun _ _ d _ _ h => by cases d <;> exact h) ?_
            (refine TD.val0 (v := ?v19) (by simp only [List.getElem?_toArray, List.getElem?_cons_succ, List.getElem?_cons_zero]; rfl) rfl ?hw19 (fun w1 => ?hy19) ?hn19; (case hw19 => rfl); (case hy19 => (go_simp; (try with_reducible rfl))); (try simp only [Act.put, List.setIfInBounds_toArray, List.set_cons_zero, List.set_cons_succ]))
            (refine TD.val0 (v := ?v20) (by simp only [List.getElem?_toArray, List.getElem?_cons_succ, List.getElem?_cons_zero]; rfl) rfl ?hw20 (fun w1 => ?hy20) ?hn20; (case hw20 => rfl); (case hy20 => (go_simp; (try with_reducible rfl))); (try simp only [Act.put, List.setIfInBounds_toArray, List.set_cons_zero, List.set_cons_succ]))
            (refine TD.val0 (v := ?v21) (by simp only [List.getElem?_toArray, List.getElem?_cons_succ, List.getElem?_cons_zero]; rfl) rfl ?hw21 (fun w1 => ?hy21) ?hn21; (case hw21 => rfl); (case hy21 => (go_simp; (try with_reducible rfl))); (try simp only [Act.put, List.setIfInBounds_toArray, List.set_cons_zero, List.set_cons_succ]))
            (refine TD.val0 (v := ?v22) (by simp only [List.getElem?_toArray, List.getElem?_cons_succ, List.getElem?_cons_zero]; rfl) rfl ?hw22 (fun w1 => ?hy22) ?hn22; (case hw22 => rfl); (case hy22 => (go_simp; (try with_reducible rfl))); (try simp only [Act.put, List.setIfInBounds_toArray, List.set_cons_zero, List.set_cons_succ]))
            (refine TD.val0 (v := ?v23) (by simp only [List.getElem?_toArray, List.getElem?_cons_succ, List.getElem?_cons_zero]; rfl) rfl ?hw23 (fun w1 => ?hy23) ?hn23; (case hw23 => rfl); (case hy23 => (go_simp; (try with_reducible rfl))); (try simp only [Act.put, List.setIfInBounds_toArray, List.set_cons_zero, List.set_cons_succ]))
            (refine TD.val0 (v := ?v24) (by simp only [List.getElem?_toArray, List.getElem?_cons_succ, List.getElem?_cons_zero]; rfl) rfl ?hw24 (fun w1 => ?hy24) ?hn24; (case hw24 => rfl); (case hy24 => (go_simp; (try with_reducible rfl))); (try simp only [Act.put, List.setIfInBounds_toArray, List.set_cons_zero, List.set_cons_succ]))
            (refine TD.call (f := ?f25) (args := ?r25) (Mod.refl _ _) (by simp only [List.getElem?_toArray, List.getElem?_cons_succ, List.getElem?_cons_zero]; rfl) rfl ?hw25 (fun w1 => ?hy25) ?hsp25 ?hn25; (case hw25 => rfl); (case hy25 => (go_simp; (first | with_reducible rfl | (constructor <;> with_reducible rfl)))); (case hsp25 => (intro wq hSq; have kp12q := hSq.at kp12 (fun h => h); have kt7q := hSq.at kt7 (fun h => h); exact (threads_m t hb wb N L2 a2 ask c2 wq (hT7.mod0 hSq) hN1 hN2 (hask7.mod0 hSq) (by omega)).mono (fun e w' h => ⟨_, h.1, by rw [HM2.out]; rfl, h.2⟩))); rintro _ rfl; (try simp only [Act.put, List.setIfInBounds_toArray, List.set_cons_zero, List.set_cons_succ]))
            (refine TD.val0 (v := ?v26) (by simp only [List.getElem?_toArray, List.getElem?_cons_succ, List.getElem?_cons_zero]; rfl) rfl ?hw26 (fun w1 => ?hy26) ?hn26; (case hw26 => rfl); (case hy26 => (go_simp; (try with_reducible rfl))); (try simp only [Act.put, List.setIfInBounds_toArray, List.set_cons_zero, List.set_cons_succ]))
            (refine TD.val0 (v := ?v27) (by simp only [List.getElem?_toArray, List.getElem?_cons_succ, List.getElem?_cons_zero]; rfl) rfl ?hw27 (fun w1 => ?hy27) ?hn27; (case hw27 => rfl); (case hy27 => (go_simp; (try with_reducible rfl))); (try simp only [Act.put, List.setIfInBounds_toArray, List.set_cons_zero, List.set_cons_succ]))
            (refine TD.call (f := ?f28) (args := ?r28) (Mod.refl _ _) (by simp only [List.getElem?_toArray, List.getElem?_cons_succ, List.getElem?_cons_zero]; rfl) rfl ?hw28 (fun w1 => ?hy28) ?hsp28 ?hn28; (case hw28 => rfl); (case hy28 => (go_simp; (first | with_reducible rfl | (constructor <;> with_reducible rfl)))); (case hsp28 => (intro wq hSq; have kp12q := hSq.at kp12 (fun h => h); have kt7q := hSq.at kt7 (fun h => h); exact (rthreads_c tb N (tb + 1) _ L2 a2 ask c2 wq (hR7.mod0 hSq) hN2 (by omega) (hask7.mod0 hSq) (by omega)).mono (fun e w' h => ⟨_, h.1, by rw [HM2.out]; rfl, h.2⟩))); rintro _ rfl; (try simp only [Act.put, List.setIfInBounds_toArray, List.set_cons_zero, List.set_cons_succ]))
            (refine TD.val0 (v := ?v29) (by simp only [List.getElem?_toArray, List.getElem?_cons_succ, List.getElem?_cons_zero]; rfl) rfl ?hw29 (fun w1 => ?hy29) ?hn29; (case hw29 => rfl); (case hy29 => (go_simp; (try with_reducible rfl))); (try simp only [Act.put, List.setIfInBounds_toArray, List.set_cons_zero, List.set_cons_succ]))
            (refine TD.val0 (v := ?v30) (by simp only [List.getElem?_toArray, List.getElem?_cons_succ, List.getElem?_cons_zero]; rfl) rfl ?hw30 (fun w1 => ?hy30) ?hn30; (case hw30 => rfl); (case hy30 => (go_simp; (try with_reducible rfl))); (try simp only [Act.put, List.setIfInBounds_toArray, List.set_cons_zero, List.set_cons_succ]))
            (refine TD.val0 (v := ?v31) (by simp only [List.getElem?_toArray, List.getElem?_cons_succ, List.getElem?_cons_zero]; rfl) rfl ?hw31 (fun w1 => ?hy31) ?hn31; (case hw31 => rfl); (case hy31 => (go_simp; (try with_reducible rfl))); (try simp only [Act.put, List.setIfInBounds_toArray, List.set_cons_zero, List.set_cons_succ]))
            (refine TD.val0 (v := ?v32) (by simp only [List.getElem?_toArray, List.getElem?_cons_succ, List.getElem?_cons_zero]; rfl) rfl ?hw32 (fun w1 => ?hy32) ?hn32; (case hw32 => rfl); (case hy32 => (go_simp; (try with_reducible rfl))); (try simp only [Act.put, List.setIfInBounds_toArray, List.set_cons_zero, List.set_cons_succ]))
            (refine TD.call (f := ?f33) (args := ?r33) (Mod.refl _ _) (by simp only [List.getElem?_toArray, List.getElem?_cons_succ, List.getElem?_cons_zero]; rfl) rfl ?hw33 (fun w1 => ?hy33) ?hsp33 ?hn33; (case hw33 => rfl); (case hy33 => (go_simp; (first | with_reducible rfl | (constructor <;> with_reducible rfl)))); (case hsp33 => (intro wq hSq; have kp12q := hSq.at kp12 (fun h => h); have kt7q := hSq.at kt7 (fun h => h); exact (free_T t hb wb N L2 wq (hT7.mod0 hSq)).mono (fun e w' h => ⟨_, h.1, by rw [HBE.out]; rfl, h.2 ▸ Mod.refl _ _⟩))); rintro _ rfl; (try simp only [Act.put, List.setIfInBounds_toArray, List.set_cons_zero, List.set_cons_succ]))
            (refine TD.val0 (v := ?v34) (by simp only [List.getElem?_toArray, List.getElem?_cons_succ, List.getElem?_cons_zero]; rfl) rfl ?hw34 (fun w1 => ?hy34) ?hn34; (case hw34 => rfl); (case hy34 => (go_simp; (try with_reducible rfl))); (try simp only [Act.put, List.setIfInBounds_toArray, List.set_cons_zero, List.set_cons_succ]))
            (refine TD.val0 (v := ?v35) (by simp only [List.getElem?_toArray, List.getElem?_cons_succ, List.getElem?_cons_zero]; rfl) rfl ?hw35 (fun w1 => ?hy35) ?hn35; (case hw35 => rfl); (case hy35 => (go_simp; (try with_reducible rfl))); (try simp only [Act.put, List.setIfInBounds_toArray, List.set_cons_zero, List.set_cons_succ]))
            (refine TD.val0 (v := ?v36) (by simp only [List.getElem?_toArray, List.getElem?_cons_succ, List.getElem?_cons_zero]; rfl) rfl ?hw36 (fun w1 => ?hy36) ?hn36; (case hw36 => rfl); (case hy36 => (go_simp; (try with_reducible rfl))); (try simp only [Act.put, List.setIfInBounds_toArray, List.set_cons_zero, List.set_cons_succ]))
            (refine TD.load (v := ?v37) (p := ?p37) (Mod.refl _ _) (by simp only [List.getElem?_toArray, List.getElem?_cons_succ, List.getElem?_cons_zero]; rfl) rfl ?hw37 rfl ?hx37 (fun wq hSq => ?hy37) ?hn37; (case hw37 => rfl); (case hx37 => (simp only [Act.eval, Array.getD_eq_getD_getElem?, List.getElem?_toArray, List.getElem?_cons_succ, List.getElem?_cons_zero, Option.getD_some]; (try rfl))); (case hy37 => (have kp12q := hSq.at kp12 (fun h => h); have kt7q := hSq.at kt7 (fun h => h); go_simp; (try with_reducible rfl))); (try simp only [Act.put, List.setIfInBounds_toArray, List.set_cons_zero, List.set_cons_succ]))
            (refine TD.val0 (v := ?v38) (by simp only [List.getElem?_toArray, List.getElem?_cons_succ, List.getElem?_cons_zero]; rfl) rfl ?hw38 (fun w1 => ?hy38) ?hn38; (case hw38 => rfl); (case hy38 => (go_simp; (try with_reducible rfl))); (try simp only [Act.put, List.setIfInBounds_toArray, List.set_cons_zero, List.set_cons_succ]))
            (refine TD.val0 (v := ?v39) (by simp only [List.getElem?_toArray, List.getElem?_cons_succ, List.getElem?_cons_zero]; rfl) rfl ?hw39 (fun w1 => ?hy39) ?hn39; (case hw39 => rfl); (case hy39 => (go_simp; (try with_reducible rfl))); (try simp only [Act.put, List.setIfInBounds_toArray, List.set_cons_zero, List.set_cons_succ]))
            (refine TD.val0 (v := ?v40) (by simp only [List.getElem?_toArray, List.getElem?_cons_succ, List.getElem?_cons_zero]; rfl) rfl ?hw40 (fun w1 => ?hy40) ?hn40; (case hw40 => rfl); (case hy40 => (go_simp; (try with_reducible rfl))); (try simp only [Act.put, List.setIfInBounds_toArray, List.set_cons_zero, List.set_cons_succ]))
            (refine TD.val0 (v := ?v41) (by simp only [List.getElem?_toArray, List.getElem?_cons_succ, List.getElem?_cons_zero]; rfl) rfl ?hw41 (fun w1 => ?hy41) ?hn41; (case hw41 => rfl); (case hy41 => (go_simp; (try with_reducible rfl))); (try simp only [Act.put, List.setIfInBounds_toArray, List.set_cons_zero, List.set_cons_succ]))
            refine TD.nil (fun w8 hr => ?_)
            have kp12 := hr.mod.at kp12 (fun h => h)
            have kt7 := hr.mod.at kt7 (fun h => h)
            have mm8 := mm7.then0 hr.mod
            have hs8 := hr.mod.size
            have HT8 := Lib.hid (hT7.mod0 hr.mod)
            have HR8 := Lib.hid (hR7.mod0 hr.mod)
            have HO8 := Lib.hid (hO7.mod0 hr.mod)
            have hol := HO8.out.lt
            have hRo8 := HR8.out.own.lt
            have hlt8 := HR8.out.lt
            have HL8 := Lib.hid HT8.out.lt
            clear hT7 hR7 hO7 kt7
            have hs73 : w3.heap.size ≤ w8.heap.size := by omega
            go_wp2_with fail
            go_loopw [16] (fun s16 wk => ∃ k : Nat, k ≤ q.length ∧ s16 = .int .i64 k ∧ RFrom wk ar q k ∧ Mod (fun j => (Value.slice ar q.length cr).ownBlock = some j) w8 wk) (fun s16 _ => q.length - (intOf s16).toNat)
            case atStart => exact ⟨0, by omega, rfl, RFrom.start HO8.out, Mod.refl _ _⟩
            case round =>
              obtain ⟨k, hk, rfl, hRF, m9⟩ := hrel
              have mm9 := mm8.then m9 (fun j hj e => by have := (hol j e).1; have := hm.size; omega)
              by_cases hkq : k < q.length
              · obtain ⟨x, hx⟩ : ∃ x, q[k]? = some x := ⟨_, List.getElem?_eq_getElem hkq⟩
                obtain ⟨g1, C1, rfl, kr, her, hsr⟩ := hRF k x (Nat.le_refl _) hx
                obtain ⟨g2, o2, C2, U2, fr2, rfl, kx2, hex, hle2⟩ := (RolesAt.sl.1 (hxr.mod0 mm9)).block hx
                have kp9 := m9.at kp12 (fun e => by have := (hol _ e).1; have := LP.out; omega)
                obtain ⟨b0, hb0⟩ := first_byte her
                have hpg : p12 < g1 := by have := (hol g1 rfl).1; have := LP.out; omega
                have HRF := Lib.hid hRF
                have heqx := eqRole1 x
                clear hRF hx
                go_upto_region 28 with fail
                have Lkr := lt_size kr
                have Lkp9 := lt_size kp9
                have Lkx2 := lt_size kx2
                refine wp_pass (C := fun _ _ _ => False) (κ := fun i => [0, 0, 0, 1, 0, 1, 0, 0, 1, 0].getD i 0) [0, 1, 2, 3, 4, 5, 6, 7, 8, 9] (by kernel_rfl) (by kernel_rfl) (fun _ _ d _ _ h => by cases d <;> exact h) ?_
                (refine TD.val0 (v := ?v42) (by simp only [List.getElem?_toArray, List.getElem?_cons_succ, List.getElem?_cons_zero]; rfl) rfl ?hw42 (fun w1 => ?hy42) ?hn42; (case hw42 => rfl); (case hy42 => (go_simp; (try with_reducible rfl))); (try simp only [Act.put, List.setIfInBounds_toArray, List.set_cons_zero, List.set_cons_succ]))
                (refine TD.val0 (v := ?v43) (by simp only [List.getElem?_toArray, List.getElem?_cons_succ, List.getElem?_cons_zero]; rfl) rfl ?hw43 (fun w1 => ?hy43) ?hn43; (case hw43 => rfl); (case hy43 => (go_simp; (try with_reducible rfl))); (try simp only [Act.put, List.setIfInBounds_toArray, List.set_cons_zero, List.set_cons_succ]))
                (refine TD.val0 (v := ?v44) (by simp only [List.getElem?_toArray, List.getElem?_cons_succ, List.getElem?_cons_zero]; rfl) rfl ?hw44 (fun w1 => ?hy44) ?hn44; (case hw44 => rfl); (case hy44 => (go_simp; (try with_reducible rfl))); (try simp only [Act.put, List.setIfInBounds_toArray, List.set_cons_zero, List.set_cons_succ]))
                (refine TD.load (v := ?v45) (p := ?p45) (Mod.refl _ _) (by simp only [List.getElem?_toArray, List.getElem?_cons_succ, List.getElem?_cons_zero]; rfl) rfl ?hw45 rfl ?hx45 (fun wq hSq => ?hy45) ?hn45; (case hw45 => rfl); (case hx45 => (simp only [Act.eval, Array.getD_eq_getD_getElem?, List.getElem?_toArray, List.getElem?_cons_succ, List.getElem?_cons_zero, Option.getD_some]; (try rfl))); (case hy45 => (have krq := hSq.at kr (fun h => h); have kp9q := hSq.at kp9 (fun h => h); have kx2q := hSq.at kx2 (fun h => h); go_simp; (try with_reducible rfl))); (try simp only [Act.put, List.setIfInBounds_toArray, List.set_cons_zero, List.set_cons_succ]))
                (refine TD.val0 (v := ?v46) (by simp only [List.getElem?_toArray, List.getElem?_cons_succ, List.getElem?_cons_zero]; rfl) rfl ?hw46 (fun w1 => ?hy46) ?hn46; (case hw46 => rfl); (case hy46 => (go_simp; (try with_reducible rfl))); (try simp only [Act.put, List.setIfInBounds_toArray, List.set_cons_zero, List.set_cons_succ]))
                (refine TD.load (v := ?v47) (p := ?p47) (Mod.refl _ _) (by simp only [List.getElem?_toArray, List.getElem?_cons_succ, List.getElem?_cons_zero]; rfl) rfl ?hw47 rfl ?hx47 (fun wq hSq => ?hy47) ?hn47; (case hw47 => rfl); (case hx47 => (simp only [Act.eval, Array.getD_eq_getD_getElem?, List.getElem?_toArray, List.getElem?_cons_succ, List.getElem?_cons_zero, Option.getD_some]; (try rfl))); (case hy47 => (have krq := hSq.at kr (fun h => h); have kp9q := hSq.at kp9 (fun h => h); have kx2q := hSq.at kx2 (fun h => h); go_simp; (try with_reducible rfl))); (try simp only [Act.put, List.setIfInBounds_toArray, List.set_cons_zero, List.set_cons_succ]))
                (refine TD.val0 (v := ?v48) (by simp only [List.getElem?_toArray, List.getElem?_cons_succ, List.getElem?_cons_zero]; rfl) rfl ?hw48 (fun w1 => ?hy48) ?hn48; (case hw48 => rfl); (case hy48 => (go_simp; (try with_reducible rfl))); (try simp only [Act.put, List.setIfInBounds_toArray, List.set_cons_zero, List.set_cons_succ]))
                (refine TD.val0 (v := ?v49) (by simp only [List.getElem?_toArray, List.getElem?_cons_succ, List.getElem?_cons_zero]; rfl) rfl ?hw49 (fun w1 => ?hy49) ?hn49; (case hw49 => rfl); (case hy49 => (go_simp; (try with_reducible rfl))); (try simp only [Act.put, List.setIfInBounds_toArray, List.set_cons_zero, List.set_cons_succ]))
                (refine TD.load (v := ?v50) (p := ?p50) (Mod.refl _ _) (by simp only [List.getElem?_toArray, List.getElem?_cons_succ, List.getElem?_cons_zero]; rfl) rfl ?hw50 rfl ?hx50 (fun wq hSq => ?hy50) ?hn50; (case hw50 => rfl); (case hx50 => (simp only [Act.eval, Array.getD_eq_getD_getElem?, List.getElem?_toArray, List.getElem?_cons_succ, List.getElem?_cons_zero, Option.getD_some]; (try rfl))); (case hy50 => (have krq := hSq.at kr (fun h => h); have kp9q := hSq.at kp9 (fun h => h); have kx2q := hSq.at kx2 (fun h => h); go_simp; (try with_reducible rfl))); (try simp only [Act.put, List.setIfInBounds_toArray, List.set_cons_zero, List.set_cons_succ]))
                (refine TD.val0 (v := ?v51) (by simp only [List.getElem?_toArray, List.getElem?_cons_succ, List.getElem?_cons_zero]; rfl) rfl ?hw51 (fun w1 => ?hy51) ?hn51; (case hw51 => rfl); (case hy51 => (go_simp; (try with_reducible rfl))); (try simp only [Act.put, List.setIfInBounds_toArray, List.set_cons_zero, List.set_cons_succ]))
                refine TD.nil (fun w10 hr => ?_)
                have kr := hr.mod.at kr (fun h => h)
                have kp9 := hr.mod.at kp9 (fun h => h)
                have kx2 := hr.mod.at kx2 (fun h => h)
                have m10 := m9.then0 hr.mod
                have HRF10 := Lib.hid (HRF.out.mod0 hr.mod)
                have KR := Lib.hid kr
                clear HRF
                go_upto_region 30 with fail
                have Lkr := lt_size kr
                have Lkp9 := lt_size kp9
                refine wp_pass (C := fun _ _ _ => False) (κ := fun i => [0, 0, 0, 0, 0, 1, 0, 0, 0, 0, 5].getD i 0) [0, 1, 2, 3, 4, 5, 6, 7, 8, 9, 10] (by kernel_rfl) (by kernel_rfl) (fun _ _ d _ _ h => by cases d <;> exact h) ?_
                (refine TD.val0 (v := ?v52) (by simp only [List.getElem?_toArray, List.getElem?_cons_succ, List.getElem?_cons_zero]; rfl) rfl ?hw52 (fun w1 => ?hy52) ?hn52; (case hw52 => rfl); (case hy52 => (go_simp; (try with_reducible rfl))); (try simp only [Act.put, List.setIfInBounds_toArray, List.set_cons_zero, List.set_cons_succ]))
                (refine TD.val0 (v := ?v53) (by simp only [List.getElem?_toArray, List.getElem?_cons_succ, List.getElem?_cons_zero]; rfl) rfl ?hw53 (fun w1 => ?hy53) ?hn53; (case hw53 => rfl); (case hy53 => (go_simp; (try with_reducible rfl))); (try simp only [Act.put, List.setIfInBounds_toArray, List.set_cons_zero, List.set_cons_succ]))
                (refine TD.val0 (v := ?v54) (by simp only [List.getElem?_toArray, List.getElem?_cons_succ, List.getElem?_cons_zero]; rfl) rfl ?hw54 (fun w1 => ?hy54) ?hn54; (case hw54 => rfl); (case hy54 => (go_simp; (try with_reducible rfl))); (try simp only [Act.put, List.setIfInBounds_toArray, List.set_cons_zero, List.set_cons_succ]))
                (refine TD.val0 (v := ?v55) (by simp only [List.getElem?_toArray, List.getElem?_cons_succ, List.getElem?_cons_zero]; rfl) rfl ?hw55 (fun w1 => ?hy55) ?hn55; (case hw55 => rfl); (case hy55 => (go_simp; (try with_reducible rfl))); (try simp only [Act.put, List.setIfInBounds_toArray, List.set_cons_zero, List.set_cons_succ]))
                (refine TD.val0 (v := ?v56) (by simp only [List.getElem?_toArray, List.getElem?_cons_succ, List.getElem?_cons_zero]; rfl) rfl ?hw56 (fun w1 => ?hy56) ?hn56; (case hw56 => rfl); (case hy56 => (go_simp; (try with_reducible rfl))); (try simp only [Act.put, List.setIfInBounds_toArray, List.set_cons_zero, List.set_cons_succ]))
                (refine TD.load (v := ?v57) (p := ?p57) (Mod.refl _ _) (by simp only [List.getElem?_toArray, List.getElem?_cons_succ, List.getElem?_cons_zero]; rfl) rfl ?hw57 rfl ?hx57 (fun wq hSq => ?hy57) ?hn57; (case hw57 => rfl); (case hx57 => (simp only [Act.eval, Array.getD_eq_getD_getElem?, List.getElem?_toArray, List.getElem?_cons_succ, List.getElem?_cons_zero, Option.getD_some]; (try rfl))); (case hy57 => (have krq := hSq.at kr (fun h => h); have kp9q := hSq.at kp9 (fun h => h); go_simp; (try with_reducible rfl))); (try simp only [Act.put, List.setIfInBounds_toArray, List.set_cons_zero, List.set_cons_succ]))
                (refine TD.val0 (v := ?v58) (by simp only [List.getElem?_toArray, List.getElem?_cons_succ, List.getElem?_cons_zero]; rfl) rfl ?hw58 (fun w1 => ?hy58) ?hn58; (case hw58 => rfl); (case hy58 => (go_simp; (try with_reducible rfl))); (try simp only [Act.put, List.setIfInBounds_toArray, List.set_cons_zero, List.set_cons_succ]))
                (refine TD.val0 (v := ?v59) (by simp only [List.getElem?_toArray, List.getElem?_cons_succ, List.getElem?_cons_zero]; rfl) rfl ?hw59 (fun w1 => ?hy59) ?hn59; (case hw59 => rfl); (case hy59 => (go_simp; (try with_reducible rfl))); (try simp only [Act.put, List.setIfInBounds_toArray, List.set_cons_zero, List.set_cons_succ]))
                (refine TD.val0 (v := ?v60) (by simp only [List.getElem?_toArray, List.getElem?_cons_succ, List.getElem?_cons_zero]; rfl) rfl ?hw60 (fun w1 => ?hy60) ?hn60; (case hw60 => rfl); (case hy60 => (go_simp; (try with_reducible rfl))); (try simp only [Act.put, List.setIfInBounds_toArray, List.set_cons_zero, List.set_cons_succ]))
                (refine TD.val0 (v := ?v61) (by simp only [List.getElem?_toArray, List.getElem?_cons_succ, List.getElem?_cons_zero]; rfl) rfl ?hw61 (fun w1 => ?hy61) ?hn61; (case hw61 => rfl); (case hy61 => (go_simp; (try with_reducible rfl))); (try simp only [Act.put, List.setIfInBounds_toArray, List.set_cons_zero, List.set_cons_succ]))
                refine TD.eff (by simp only [List.getElem?_toArray, List.getElem?_cons_succ, List.getElem?_cons_zero]; rfl) rfl (fun wE hr => ?_)
                have kr := hr.mod.at0 kr
                have kp9 := hr.mod.at0 kp9
                have mE := hr.mod
                (refine eff_store (X := ?X62) (Y := ?Y62) (w' := ?w62) (by simp only [List.getElem?_toArray, List.getElem?_cons_succ, List.getElem?_cons_zero]; rfl) ?hw62 rfl ?hx62 ?hz62 ?hy62 ?hn62; (case hw62 => rfl); (case hx62 => (simp only [Act.eval, Array.getD_eq_getD_getElem?, List.getElem?_toArray, List.getElem?_cons_succ, List.getElem?_cons_zero, Option.getD_some]; (try rfl))); (case hz62 => (simp only [Act.eval, Array.getD_eq_getD_getElem?, List.getElem?_toArray, List.getElem?_cons_succ, List.getElem?_cons_zero, Option.getD_some]; (try rfl))); (case hy62 => (go_simp; (try with_reducible rfl))))
                (first | refine TE.nil_set kr (fun w11 kr mS => ?_) | refine TE.nil_setCell kr (fun w11 kr mS => ?_))
                (try simp only [Array.setIfInBounds, List.setIfInBounds_toArray, List.set_cons_zero, List.set_cons_succ] at kr)
                have kp9 := mS.at_ne kp9 (by omega)
                have m11 : Mod (fun j => (Value.slice (some ⟨g1, 0, none⟩) q.length cr).ownBlock = some j) w8 w11 := (m10.then0 mE).then mS (fun _ _ e => by subst e; rfl)
                have HRF11 := Lib.hid (RFrom.step HRF10.out KR.out kr)
                clear HRF10
                go_wp2_with fail
                go_roundw
                case rel => exact ⟨k + 1, by omega, by go_num, HRF11.out, m11⟩
                case measure => simp [intOf]; omega
              · have hT9 := HT8.out.out m9 (fun e => by have := (hol _ e).1; omega) (fun e => by have := (hol _ e).1; omega) (fun e => by have := (hol _ e).1; omega)
                have hR9 := HR8.out.mod m9 (fun e => by have := (hol _ e).1; omega) (fun b hb => hn7 b hb)
                have HT9 := Lib.hid hT9
                have HR9 := Lib.hid hR9
                have hs9 := m9.size
                clear hT9 hR9
                go_wp2_with fail
                go_roundw
                case rel => exact ⟨i + 1, _, L2, by omega, by go_num, HT9.out, HR9.out, HL7, by omega, mm9⟩
                case measure => simp [intOf]; omega
        · go_wp2_with (go_at_call 10; refine (lives_c _).mono ?_; rintro e w' ⟨rfl, hm2⟩)
          go_ret
          exact ⟨rfl, hm.trans hm2⟩
end Go.Proofs.Ytleenmldlbccmaa
