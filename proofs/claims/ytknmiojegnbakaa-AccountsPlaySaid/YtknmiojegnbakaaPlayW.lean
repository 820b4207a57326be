/- The walk of AccountsPlay. -/
import Derived.Test.YtknmiojegnbakaaPlayP
import Derived.Deep.CutBlock
namespace Go.Proofs.Ytknmiojegnbakaa
open Go.RowKit
open Go.ChangeMaps (setBlock)
set_option linter.unusedSimpArgs false
set_option linter.unusedVariables false
attribute [local go_sem ↓] wlKey ldKey stKey wlAcct ldAcct stAcct wlHold ldHold stHold wlAct ldAct stAct eqKey1 eqAcct eqHold
attribute [local go_sem] eqMap neMap av_size av_c av_s av_c' av_s' av_o av_all av_one hd_size hd_key hd_acct hd_all hd_one zKey_size zAcct_size zHold_size cell_blk frozen_blk kc_ext one_int one_bool one_ptr one_slice one_map kc_one kc_one0 kc_size Value.cells
attribute [local go_sem] ac_size zAct_size ac_all ac_one ac_n ac_n'
theorem bRef0 (w : World) : (Instr.build 50 #[]).run Try.prog w = .ok (.agg #[.slice none 0 0]) w := by kernel_rfl
theorem ac_k3 {x : AAct} : (ac x).extract 1 (1 + 32) = kc x.k := ac_key x
theorem ac_a3 {x : AAct} : (ac x).extract 33 (33 + 34) = av x.a := ac_acct x
theorem ref_ne {w : World} {r i : Nat} {L : List Hold} {C : Array Value} {U : TypeId} {fr : Nat × Nat} (h : RAt w r L) (hi : w.heap[i]? = some (.cells C U fr)) (hU : U ≠ 50) : i ≠ r := by
  obtain ⟨v, k⟩ := h.cell
  intro e
  subst e
  rw [k] at hi
  simp only [Option.some.injEq, Obj.cells.injEq] at hi
  exact hU hi.2.1.symm
theorem lenA (m : List (Key × Acct)) (k : Key) (a : Acct) : (putA m k a).length ≤ m.length + 1 := putA_len m k a
def zBook : Array Value := #[.slice none 0 0]
theorem ldBook (w : World) (b o : Nat) : (Instr.loadAt 58 (.pointer (some ⟨b, o, none⟩))).run Try.prog w =
      match w.heap[b]? with
      | some (.cells cs _ _) => if o + 1 ≤ cs.size then .ok (.agg (cs.extract o (o + 1))) w else farL Try.prog w 58 b o
      | _ => farL Try.prog w 58 b o := load_rule (d := _) Try.underlying58 rfl (by kernel_rfl) w b o
theorem stBook (w : World) (b o : Nat) (xs : Array Value) : (Instr.storeAt 58 (.pointer (some ⟨b, o, none⟩)) (.agg xs)).run Try.prog w =
      match w.heap[b]? with
      | some (.cells cs U (0, 0)) =>
        if o + 1 ≤ cs.size ∧ xs.size = 1 ∧ xs.all (·.oneCell') = true then .ok () (setBlock w b (.cells (if o = 0 ∧ 1 = cs.size then xs else wr cs o xs.toList) U (0, 0))) else farS Try.prog w 58 b o (.agg xs)
      | _ => farS Try.prog w 58 b o (.agg xs) := store_rule (by kernel_rfl) w b o xs
theorem wlBook (dst : Option Tmp) (x : Operand) (ty : TypeId) (pos : String) (after : Array Edge) (g : Option (Nat × Bool)) (a : Act) (w : World) (K : Act → World → Prop) (Q : Exit → Act → World → Prop) :
    Oper.wp Try.prog { dst := dst, op := .load 58 x, type := ty, pos := pos, after := after, guard := g } a w K Q =
      (match a.eval x with
      | .pointer (some ⟨b, o, none⟩) =>
        (match w.heap[b]? with
        | some (.cells cs _ _) => if o + 1 ≤ cs.size then K (a.put dst (.agg (cs.extract o (o + 1)))) w else farW Try.prog { dst := dst, op := .load 58 x, type := ty, pos := pos, after := after, guard := g } a w K Q
        | _ => farW Try.prog { dst := dst, op := .load 58 x, type := ty, pos := pos, after := after, guard := g } a w K Q)
      | _ => farW Try.prog { dst := dst, op := .load 58 x, type := ty, pos := pos, after := after, guard := g } a w K Q) := wp_load_rule (d := _) Try.underlying58 rfl (by kernel_rfl) dst x ty pos after g a w K Q
theorem alBook (w : World) : (Instr.alloc 58 true (.tuple #[])).run Try.prog w = .ok (.pointer (some ⟨w.heap.size, 0, none⟩)) (w.alloc (.cells zBook 58)) :=
  run_alloc_row (z := .agg zBook) (fun w => by kernel_rfl) w
theorem alBk (w : World) : (Instr.alloc 58 true (.tuple #[])).run Try.prog w = .ok (.pointer (some ⟨w.heap.size, 0, none⟩)) (w.alloc (.cells #[.slice none 0 0] 58)) := alBook w
attribute [local go_sem ↓] stBook
theorem bBook0 (w : World) : (Instr.build 58 #[]).run Try.prog w = .ok (.agg #[.slice none 0 0]) w := by kernel_rfl
/-- A new list of these holdings. -/
def ListL (L : List Hold) (v : Value) : Land := fun T w => ∃ a : Option Addr, v = .slice a L.length L.length ∧ SlAt hd 66 w a L ∧ ∀ x, a = some x → L ≠ [] → T x.block
theorem goodList (L : List Hold) (v : Value) : Good (ListL L v) :=
  ⟨fun T w w' ⟨a, h1, h2, h3⟩ hm => ⟨a, h1, by
    by_cases hL : L = []
    · exact .inl hL
    · exact h2.mod hm (fun b o e hn => hn (h3 _ e hL)), h3⟩, fun T T' w hT ⟨a, h1, h2, h3⟩ => ⟨a, h1, h2, fun x hx hL => hT _ (h3 x hx hL)⟩⟩
theorem listL_c {p b : Nat} {m : List (Key × Acct)} {L : List Hold} (T : Nat → Prop) (w : World) (h : StAt w p b m) (hR : Rep m L) (hL : L.length ≤ 151) : Calls Try.prog 11 #[.pointer (some ⟨p, 0, none⟩)] w fun e w' => ∃ v, e = .returned v ∧ Mod (fun _ => False) w w' ∧ ListL L v (Grow T w w') w' := by
  have hl := hR.len
  refine (list_c p b m _ (sortOkS m (by omega)) w h (by omega)).mono ?_
  rintro e w' ⟨a, l, he, hp, hS, hs, hf, hn, hm⟩
  obtain rfl := hR.list hp hS
  refine ⟨_, he, hm, a, rfl, hs, fun x hx hL => ?_⟩
  rcases hs with h0 | ⟨b', o, C, U, fr, ha, hb, _⟩
  · exact absurd h0 hL
  · rw [ha] at hx
    cases hx
    exact .inr ⟨hn _ ha, lt_size hb⟩
theorem sl_whole2 {a : Option Addr} {n : Nat} (hn : a = none → n = 0) (w : World) : (Instr.sliceAt 35 (.slice a n n) none (some (.int .i64 (n : Int))) none).run Try.prog w = .ok (.slice a n n) w := by
  cases a with
  | none =>
    rw [hn rfl]
    exact sl_take0 w
  | some x =>
    obtain ⟨i0, z, hi, hz, hz1, hz2, hz3⟩ := holdT.info
    have hadd : x.add (0 * 66) = x := by
      unfold Addr.add
      rw [Nat.zero_mul, if_pos rfl]
    have hp : (0 : Int) ≤ (n : Int) ∧ (n : Int) ≤ (n : Int) := ⟨by omega, by omega⟩
    simp only [Instr.sliceAt, Instr.slice, Instr.sliceBounds, Instr.sliceBound, asIntOf, sizeOf, typeInfo, run_underlying holdT.u, hi, Sem.run_bind, Sem.run_pure, Result.andThen_ok]
    rw [if_pos hp]
    simp only [Sem.run_pure, Result.andThen_ok, Go.program, Sem.run, hi, hz1, Option.map_some, Int.toNat_natCast, hadd, Nat.sub_zero, ite_self]
theorem fz_lt {w : World} {a : Option Addr} (h : Fz w a) (i : Nat) (hi : InA a i) : i < w.heap.size := by
  obtain ⟨o, e⟩ := hi
  obtain ⟨C, U, hc⟩ := h i o e
  exact lt_size hc
theorem wat_nil {w : World} {a : Option Addr} {l : List Hold} (h : WAt w a l) (ha : a = none) : l.length = 0 := by
  rcases h with rfl | ⟨b, o, C, U, h1, _⟩
  · rfl
  · rw [ha] at h1; cases h1
def KT (a4 a5 : Option Addr) (l : List Hold) : Land := fun T w => (∀ i, (InA a4 i ∨ InA a5 i) → T i) ∧ WAt w a4 l ∧ WAt w a5 l
theorem goodKT (a4 a5 : Option Addr) (l : List Hold) : Good (KT a4 a5 l) :=
  ⟨fun T w w' h hm => ⟨h.1, h.2.1.mod hm (fun b o e hn => hn (h.1 b (.inl ⟨o, e⟩))), h.2.2.mod hm (fun b o e hn => hn (h.1 b (.inr ⟨o, e⟩)))⟩, fun T T' w hT h => ⟨fun i hi => hT i (h.1 i hi), h.2⟩⟩
set_option maxRecDepth 20000 in
set_option maxHeartbeats 3200000 in
theorem playLaw_c (a : Option Addr) (l : List AAct) (c : Nat) (ask : Key) (w : World) (h : SlAt ac 67 w a l) : Calls Try.prog 5 #[.slice a l.length c, .agg (kc ask)] w fun e w' => e = .returned (.bool true) ∧ Mod (fun _ => False) w w' := by
  have H := Lib.hid h
  clear h
  have hb0 := bRef0
  go_enter Try.func5, Try.ntmps5
  go_upto_region 0 with fail
  refine wp_pass0 (C := fun _ _ _ => False) (κ := fun i => [3, 0].getD i 0) [0, 1] (by kernel_rfl) (by kernel_rfl) (fun _ _ d _ _ h => by cases d <;> exact h) ?_
  (refine TD.box (v := ?v1) (by simp only [List.getElem?_toArray, List.getElem?_cons_succ, List.getElem?_cons_zero]; rfl) rfl ?hw1 rfl rfl ?hx1 (fun p3 hp3 => ?hn1); (case hw1 => rfl); (case hx1 => (simp only [Act.eval, Array.getD_eq_getD_getElem?, List.getElem?_toArray, List.getElem?_cons_succ, List.getElem?_cons_zero, Option.getD_some]; (try rfl))); (try simp only [Act.put, List.setIfInBounds_toArray, List.set_cons_zero, List.set_cons_succ]))
  (refine TD.val0 (v := ?v2) (by simp only [List.getElem?_toArray, List.getElem?_cons_succ, List.getElem?_cons_zero]; rfl) rfl ?hw2 (fun w1 => ?hy2) ?hn2; (case hw2 => rfl); (case hy2 => (go_simp; (try with_reducible rfl))); (try simp only [Act.put, List.setIfInBounds_toArray, List.set_cons_zero, List.set_cons_succ]))
  refine TD.nil (fun w1 hr => ?_)
  have kp3 := hr.box p3 _ (by first | exact Bx.set_same _ _ _ | (simp only [Bx.set_same]; rfl)); dsimp only [Value.cells] at kp3; obtain ⟨gp3, kp3⟩ := kp3
  have m1 := hr.mod
  have g3 := gp3
  by_cases hlen : (150 : Int) < (l.length : Int)
  · clear kp3 gp3 hb0
    go_wp2_with fail
    go_at_call 8
    refine (lives_c _).mono ?_
    rintro e w3 ⟨rfl, m3⟩
    go_wp2_with fail
    go_ret
    exact ⟨rfl, m1.then0 m3⟩
  · have hl150 : l.length ≤ 150 := by omega
    have K3 := Lib.hid kp3
    clear kp3 gp3
    go_wp2_with fail
    go_at_call 14
    refine (newS_c _).mono ?_
    rintro e w2 ⟨p, b, rfl, hp, hb, hT, m2⟩
    have HT := Lib.hid hT
    have mm := m1.then0 m2
    have K3 := Lib.hid (m2.at0 K3.out)
    have HB : Hid (w.heap.size ≤ b) := Lib.hid (Nat.le_trans m1.size hb)
    clear hT hp hb m1 m2
    go_upto_region 4 with fail
    refine wp_pass0 (C := fun _ _ _ => False) (κ := fun i => [0, 3, 0].getD i 0) [0, 1, 2] (by kernel_rfl) (by kernel_rfl) (fun _ _ d _ _ h => by cases d <;> exact h) ?_
    (refine TD.build (v := ?v3) (ps := ?p3) (by simp only [List.getElem?_toArray, List.getElem?_cons_succ, List.getElem?_cons_zero]; rfl) rfl ?hw3 rfl ?hx3 (fun w1 => ?hy3) ?hn3; (case hw3 => rfl); (case hx3 => (simp only [List.map_toArray, List.map_cons, List.map_nil, Act.eval, Array.getD_eq_getD_getElem?, List.getElem?_toArray, List.getElem?_cons_succ, List.getElem?_cons_zero, Option.getD_some]; (try rfl))); (case hy3 => (rw [hb0]; (try with_reducible rfl))); (try simp only [Act.put, List.setIfInBounds_toArray, List.set_cons_zero, List.set_cons_succ]))
    (refine TD.box (v := ?v4) (by simp only [List.getElem?_toArray, List.getElem?_cons_succ, List.getElem?_cons_zero]; rfl) rfl ?hw4 rfl rfl ?hx4 (fun p23 hp23 => ?hn4); (case hw4 => rfl); (case hx4 => (simp only [Act.eval, Array.getD_eq_getD_getElem?, List.getElem?_toArray, List.getElem?_cons_succ, List.getElem?_cons_zero, Option.getD_some]; (try rfl))); (try simp only [Act.put, List.setIfInBounds_toArray, List.set_cons_zero, List.set_cons_succ]))
    (refine TD.val0 (v := ?v5) (by simp only [List.getElem?_toArray, List.getElem?_cons_succ, List.getElem?_cons_zero]; rfl) rfl ?hw5 (fun w1 => ?hy5) ?hn5; (case hw5 => rfl); (case hy5 => (go_simp; (try with_reducible rfl))); (try simp only [Act.put, List.setIfInBounds_toArray, List.set_cons_zero, List.set_cons_succ]))
    refine TD.nil (fun w3 hr => ?_)
    have kp23 := hr.box p23 _ (by first | exact Bx.set_same _ _ _ | (simp only [Bx.set_same]; rfl)); dsimp only [Value.cells] at kp23; obtain ⟨gp23, kp23⟩ := kp23
    have mm3 := mm.then0 hr.mod
    have HT := Lib.hid (HT.out.mod0 hr.mod)
    have K3 := Lib.hid (hr.mod.at0 K3.out)
    have HR0 : Hid (RAt w3 p23 []) := Lib.hid ⟨_, kp23, SlOwn.nil _ _⟩
    have HG : Hid (w.heap.size ≤ p23) := Lib.hid (Nat.le_trans mm.size gp23)
    clear kp23 gp23 hb0 mm
    go_wp2_with fail
    go_at_call 15
    refine (copy_c p b [] _ HT.out).mono ?_
    rintro e w4 ⟨q, cc, rfl, hq, hcc, hC, m4⟩
    have HCC : Hid (b ≠ cc ∧ w.heap.size ≤ cc ∧ p23 < w4.heap.size) := Lib.hid (by have h1 := HT.out.lt; have h2 := HR0.out.lt; have h3 := mm3.size; have h4 := m4.size; omega)
    have HT := Lib.hid (HT.out.mod0 m4)
    have K3 := Lib.hid (m4.at0 K3.out)
    have HR0 := Lib.hid (HR0.out.mod0 m4)
    have HC := Lib.hid hC
    have mm4 := mm3.then0 m4
    clear hC hq hcc m4 mm3
    go_wp2_with fail
    go_at_call 16
    refine (rcopy_c p23 [] _ HR0.out (by decide)).mono ?_
    rintro e w5 ⟨r2, rfl, hr2, hD, m5⟩
    have PS0 : Hid (PS w w5 p b p23 q cc r2 [] [] [] []) := Lib.hid ⟨HT.out.mod0 m5, HR0.out.mod0 m5, HC.out.mod0 m5, hD, HCC.out.1, by have := HCC.out.2.2; omega, HB.out, HCC.out.2.1, HG.out, by have := mm4.size; omega, mm4.then0 m5⟩
    have K3 := Lib.hid (m5.at0 K3.out)
    clear hr2 hD m5 HT HR0 HC HCC HB HG mm4
    go_wp2_with fail
    go_loopw [7, 8, 9] (fun s7 s8 s9 ws => ∃ (i q c2 d : Nat) (m : List (Key × Acct)) (L : List Hold) (n : List (Key × Acct)) (M : List Hold), i ≤ l.length ∧ s9 = .int .i64 (i : Int) ∧ s7 = .pointer (some ⟨q, 0, none⟩) ∧ s8 = .pointer (some ⟨d, 0, none⟩) ∧ Hid (PS w ws p b p23 q c2 d m L n M) ∧ Hid (Rep m L) ∧ Hid (Rep n M) ∧ Hid (m.length ≤ i ∧ n.length ≤ i) ∧ ws.heap[p3]? = some (.cells (kc ask) 28 (0, 0))) (fun _ _ s9 _ => l.length - (intOf s9).toNat)
    case atStart => exact ⟨0, q, cc, r2, [], [], [], [], by omega, rfl, rfl, rfl, PS0, Lib.hid Rep.nil, Lib.hid Rep.nil, Lib.hid (by simp), K3.out⟩
    case round =>
      clear PS0 K3
      obtain ⟨i, q, c2, d, m, L, n, M, hi, rfl, rfl, rfl, HPS, HR1, HR2, HLN, kp3⟩ := hrel
      by_cases hlt : i < l.length
      · obtain ⟨x, hx⟩ : ∃ x, l[i]? = some x := ⟨_, List.getElem?_eq_getElem hlt⟩
        obtain ⟨g, o, C, U, fr, rfl, kl, he, hle⟩ := (H.out.mod0 HPS.out.mod).block hx
        clear hx
        have K3 := Lib.hid kp3
        clear kp3
        go_upto_region 10 with fail
        have Lkl := lt_size kl
        refine wp_pass0 (C := fun _ _ _ => False) (κ := fun i => [0, 0, 0, 1, 3, 4].getD i 0) [0, 1, 2, 3, 4, 5] (by kernel_rfl) (by kernel_rfl) (fun _ _ d _ _ h => by cases d <;> exact h) ?_
        (refine TD.val0 (v := ?v6) (by simp only [List.getElem?_toArray, List.getElem?_cons_succ, List.getElem?_cons_zero]; rfl) rfl ?hw6 (fun w1 => ?hy6) ?hn6; (case hw6 => rfl); (case hy6 => (go_simp; (try with_reducible rfl))); (try simp only [Act.put, List.setIfInBounds_toArray, List.set_cons_zero, List.set_cons_succ]))
        (refine TD.val0 (v := ?v7) (by simp only [List.getElem?_toArray, List.getElem?_cons_succ, List.getElem?_cons_zero]; rfl) rfl ?hw7 (fun w1 => ?hy7) ?hn7; (case hw7 => rfl); (case hy7 => (go_simp; (try with_reducible rfl))); (try simp only [Act.put, List.setIfInBounds_toArray, List.set_cons_zero, List.set_cons_succ]))
        (refine TD.val0 (v := ?v8) (by simp only [List.getElem?_toArray, List.getElem?_cons_succ, List.getElem?_cons_zero]; rfl) rfl ?hw8 (fun w1 => ?hy8) ?hn8; (case hw8 => rfl); (case hy8 => (go_simp; (try with_reducible rfl))); (try simp only [Act.put, List.setIfInBounds_toArray, List.set_cons_zero, List.set_cons_succ]))
        (refine TD.load (v := ?v9) (p := ?p9) (Mod.refl _ _) (by simp only [List.getElem?_toArray, List.getElem?_cons_succ, List.getElem?_cons_zero]; rfl) rfl ?hw9 rfl ?hx9 (fun wq hSq => ?hy9) ?hn9; (case hw9 => rfl); (case hx9 => (simp only [Act.eval, Array.getD_eq_getD_getElem?, List.getElem?_toArray, List.getElem?_cons_succ, List.getElem?_cons_zero, Option.getD_some]; (try rfl))); (case hy9 => (have klq := hSq.at kl (fun h => h); go_simp; (try with_reducible rfl))); (try simp only [Act.put, List.setIfInBounds_toArray, List.set_cons_zero, List.set_cons_succ]))
        (refine TD.allocB (by simp only [List.getElem?_toArray, List.getElem?_cons_succ, List.getElem?_cons_zero]; rfl) rfl ?hw10 rfl rfl alAct (fun p10 hp10 => ?hn10); (case hw10 => rfl); (try simp only [Act.put, List.setIfInBounds_toArray, List.set_cons_zero, List.set_cons_succ]))
        (refine TD.storeB (d := ?d11) (T := ?T11) (y := ?y11) (p := ?p11) (b := ?b11) (v := ?v11) (by simp only [List.getElem?_toArray, List.getElem?_cons_succ, List.getElem?_cons_zero]; rfl) rfl ?hw11 ?hd11 ?hop11 ?hev11 ?hx11 ?hb11 ?htag11 (fun w1 hb1 => ?hy11) ?hn11; (case hw11 => rfl); (case hd11 => rfl); (case hop11 => rfl); (case hev11 => (simp only [Act.eval, Array.getD_eq_getD_getElem?, List.getElem?_toArray, List.getElem?_cons_succ, List.getElem?_cons_zero, Option.getD_some]; (try rfl))); (case hx11 => (simp only [Act.eval, Array.getD_eq_getD_getElem?, List.getElem?_toArray, List.getElem?_cons_succ, List.getElem?_cons_zero, Option.getD_some]; (try rfl))); (case hb11 => first | exact Bx.set_same _ _ _ | (simp only [Bx.set_same]; rfl)); (case hy11 => (go_simp; (try with_reducible rfl))); (try simp only [Act.put, List.setIfInBounds_toArray, List.set_cons_zero, List.set_cons_succ]))
        refine TD.nil (fun w6 hr => ?_)
        have kl := hr.mod.at kl (fun h => h)
        have kp10 := hr.box p10 _ (by first | exact Bx.set_same _ _ _ | (simp only [Bx.set_same]; rfl)); dsimp only [Value.cells] at kp10; obtain ⟨gp10, kp10⟩ := kp10
        have HPS := Lib.hid (HPS.out.mod0 hr.mod)
        have K3 := Lib.hid (hr.mod.at0 K3.out)
        clear kl he hle gp10
        have e1 := ac_k3 (x := x)
        have e2 := ac_a3 (x := x)
        have KP := Lib.hid kp10
        have hx67 : 0 < (ac x).size := by rw [ac_size]; omega
        go_upto_region 11 with fail
        have hkk : ∃ kk : Int, (x.n.toNat : Int) % 5 = kk ∧ 0 ≤ kk ∧ kk < 5 := ⟨_, rfl, by omega, by omega⟩
        obtain ⟨kk, hkk, h0, h5⟩ := hkk
        have HKK := Lib.hid hkk
        clear hkk
        go_upto_block 2 with fail
        have PH := HPS.out.S.ne_cells kp10
        go_cut [7, 8] from 28 to 123 (fun s7 s8 wx => ∃ (q c2 d : Nat) (m : List (Key × Acct)) (L : List Hold) (n : List (Key × Acct)) (M : List Hold), s7 = .pointer (some ⟨q, 0, none⟩) ∧ s8 = .pointer (some ⟨d, 0, none⟩) ∧ Hid (PS w wx p b p23 q c2 d m L n M) ∧ Hid (Rep m L) ∧ Hid (Rep n M) ∧ Hid (m.length ≤ i + 1 ∧ n.length ≤ i + 1) ∧ Hid (wx.heap[p3]? = some (.cells (kc ask) 28 (0, 0))) ∧ Hid (wx.heap[p10]? = some (.cells (ac x) 33 (0, 0))))
        case first =>
          rw [HKK.out]
          rcases (by omega : kk = 0 ∨ kk = 1 ∨ kk = 2 ∨ kk = 3 ∨ kk = 4) with rfl | rfl | rfl | rfl | rfl
          ·
            go_upto_region 17 with fail
            have Lkp10 := lt_size kp10
            refine wp_pass0 (C := fun _ _ _ => False) (κ := fun i => [0, 0, 1, 0, 1, 5, 0].getD i 0) [0, 1, 2, 3, 4, 5, 6] (by kernel_rfl) (by kernel_rfl) (fun _ _ d _ _ h => by cases d <;> exact h) ?_
            (refine TD.val0 (v := ?v12) (by simp only [List.getElem?_toArray, List.getElem?_cons_succ, List.getElem?_cons_zero]; rfl) rfl ?hw12 (fun w1 => ?hy12) ?hn12; (case hw12 => rfl); (case hy12 => (go_simp; (try with_reducible rfl))); (try simp only [Act.put, List.setIfInBounds_toArray, List.set_cons_zero, List.set_cons_succ]))
            (refine TD.val0 (v := ?v13) (by simp only [List.getElem?_toArray, List.getElem?_cons_succ, List.getElem?_cons_zero]; rfl) rfl ?hw13 (fun w1 => ?hy13) ?hn13; (case hw13 => rfl); (case hy13 => (go_simp; (try with_reducible rfl))); (try simp only [Act.put, List.setIfInBounds_toArray, List.set_cons_zero, List.set_cons_succ]))
            (refine TD.load (v := ?v14) (p := ?p14) (Mod.refl _ _) (by simp only [List.getElem?_toArray, List.getElem?_cons_succ, List.getElem?_cons_zero]; rfl) rfl ?hw14 rfl ?hx14 (fun wq hSq => ?hy14) ?hn14; (case hw14 => rfl); (case hx14 => (simp only [Act.eval, Array.getD_eq_getD_getElem?, List.getElem?_toArray, List.getElem?_cons_succ, List.getElem?_cons_zero, Option.getD_some]; (try rfl))); (case hy14 => (have kp10q := hSq.at kp10 (fun h => h); go_simp; (try with_reducible rfl))); (try simp only [Act.put, List.setIfInBounds_toArray, List.set_cons_zero, List.set_cons_succ]))
            (refine TD.val0 (v := ?v15) (by simp only [List.getElem?_toArray, List.getElem?_cons_succ, List.getElem?_cons_zero]; rfl) rfl ?hw15 (fun w1 => ?hy15) ?hn15; (case hw15 => rfl); (case hy15 => (go_simp; (try with_reducible rfl))); (try simp only [Act.put, List.setIfInBounds_toArray, List.set_cons_zero, List.set_cons_succ]))
            (refine TD.load (v := ?v16) (p := ?p16) (Mod.refl _ _) (by simp only [List.getElem?_toArray, List.getElem?_cons_succ, List.getElem?_cons_zero]; rfl) rfl ?hw16 rfl ?hx16 (fun wq hSq => ?hy16) ?hn16; (case hw16 => rfl); (case hx16 => (simp only [Act.eval, Array.getD_eq_getD_getElem?, List.getElem?_toArray, List.getElem?_cons_succ, List.getElem?_cons_zero, Option.getD_some]; (try rfl))); (case hy16 => (have kp10q := hSq.at kp10 (fun h => h); go_simp; (try with_reducible rfl))); (try simp only [Act.put, List.setIfInBounds_toArray, List.set_cons_zero, List.set_cons_succ]))
            refine TD.eff (by simp only [List.getElem?_toArray, List.getElem?_cons_succ, List.getElem?_cons_zero]; rfl) rfl (fun w7 hr => ?_)
            have kp10 := hr.mod.at kp10 (fun h => h)
            have HQ := Lib.hid (HPS.out.mod0 hr.mod)
            have K7 := Lib.hid (hr.mod.at0 K3.out)
            have hput := HQ.out.put1 x.k x.a
            (refine eff_callP (by simp only [List.getElem?_toArray, List.getElem?_cons_succ, List.getElem?_cons_zero]; rfl) ?hw18 ?hy18 hput (fun wn hP => ?hn18); (case hw18 => rfl); (case hy18 => (go_simp; (try (first | with_reducible rfl | (constructor <;> with_reducible rfl))))); (try simp only [Act.put, List.setIfInBounds_toArray, List.set_cons_zero, List.set_cons_succ]))
            (refine TE.val0 (v := ?v19) (by simp only [List.getElem?_toArray, List.getElem?_cons_succ, List.getElem?_cons_zero]; rfl) ?hw19 (fun w1 => ?hy19) ?hn19; (case hw19 => rfl); (case hy19 => (go_simp; (try with_reducible rfl))); (try simp only [Act.put, List.setIfInBounds_toArray, List.set_cons_zero, List.set_cons_succ]))
            refine TE.nil ?_
            obtain ⟨hP1, hm1⟩ := hP
            replace kp10 := hm1.at kp10 (fun e => HQ.out.S.ne_cells kp10 e.symm)
            have K8 := Lib.hid (hm1.at K7.out (fun e => HQ.out.S.ne_cells K7.out e.symm))
            have HP1 := Lib.hid hP1
            clear hput hP1 hm1
            go_upto_region 19 with fail
            have Lkp10 := lt_size kp10
            refine wp_pass0 (C := fun _ _ _ => False) (κ := fun i => [0, 0, 1, 0, 1, 5].getD i 0) [0, 1, 2, 3, 4, 5] (by kernel_rfl) (by kernel_rfl) (fun _ _ d _ _ h => by cases d <;> exact h) ?_
            (refine TD.val0 (v := ?v20) (by simp only [List.getElem?_toArray, List.getElem?_cons_succ, List.getElem?_cons_zero]; rfl) rfl ?hw20 (fun w1 => ?hy20) ?hn20; (case hw20 => rfl); (case hy20 => (go_simp; (try with_reducible rfl))); (try simp only [Act.put, List.setIfInBounds_toArray, List.set_cons_zero, List.set_cons_succ]))
            (refine TD.val0 (v := ?v21) (by simp only [List.getElem?_toArray, List.getElem?_cons_succ, List.getElem?_cons_zero]; rfl) rfl ?hw21 (fun w1 => ?hy21) ?hn21; (case hw21 => rfl); (case hy21 => (go_simp; (try with_reducible rfl))); (try simp only [Act.put, List.setIfInBounds_toArray, List.set_cons_zero, List.set_cons_succ]))
            (refine TD.load (v := ?v22) (p := ?p22) (Mod.refl _ _) (by simp only [List.getElem?_toArray, List.getElem?_cons_succ, List.getElem?_cons_zero]; rfl) rfl ?hw22 rfl ?hx22 (fun wq hSq => ?hy22) ?hn22; (case hw22 => rfl); (case hx22 => (simp only [Act.eval, Array.getD_eq_getD_getElem?, List.getElem?_toArray, List.getElem?_cons_succ, List.getElem?_cons_zero, Option.getD_some]; (try rfl))); (case hy22 => (have kp10q := hSq.at kp10 (fun h => h); go_simp; (try with_reducible rfl))); (try simp only [Act.put, List.setIfInBounds_toArray, List.set_cons_zero, List.set_cons_succ]))
            (refine TD.val0 (v := ?v23) (by simp only [List.getElem?_toArray, List.getElem?_cons_succ, List.getElem?_cons_zero]; rfl) rfl ?hw23 (fun w1 => ?hy23) ?hn23; (case hw23 => rfl); (case hy23 => (go_simp; (try with_reducible rfl))); (try simp only [Act.put, List.setIfInBounds_toArray, List.set_cons_zero, List.set_cons_succ]))
            (refine TD.load (v := ?v24) (p := ?p24) (Mod.refl _ _) (by simp only [List.getElem?_toArray, List.getElem?_cons_succ, List.getElem?_cons_zero]; rfl) rfl ?hw24 rfl ?hx24 (fun wq hSq => ?hy24) ?hn24; (case hw24 => rfl); (case hx24 => (simp only [Act.eval, Array.getD_eq_getD_getElem?, List.getElem?_toArray, List.getElem?_cons_succ, List.getElem?_cons_zero, Option.getD_some]; (try rfl))); (case hy24 => (have kp10q := hSq.at kp10 (fun h => h); go_simp; (try with_reducible rfl))); (try simp only [Act.put, List.setIfInBounds_toArray, List.set_cons_zero, List.set_cons_succ]))
            refine TD.eff (by simp only [List.getElem?_toArray, List.getElem?_cons_succ, List.getElem?_cons_zero]; rfl) rfl (fun w8 hr => ?_)
            have kp10 := hr.mod.at kp10 (fun h => h)
            have HQ2 := Lib.hid (HP1.out.mod0 hr.mod)
            have K9 := Lib.hid (hr.mod.at0 K8.out)
            have hput := HQ2.out.put2 x.k x.a (by have h1 := HR1.out.len; have h2 := HR2.out.len; have h3 := HLN.out; omega)
            (refine eff_callP (by simp only [List.getElem?_toArray, List.getElem?_cons_succ, List.getElem?_cons_zero]; rfl) ?hw26 ?hy26 hput (fun wn hP => ?hn26); (case hw26 => rfl); (case hy26 => (go_simp; (try (first | with_reducible rfl | (constructor <;> with_reducible rfl))))); (try simp only [Act.put, List.setIfInBounds_toArray, List.set_cons_zero, List.set_cons_succ]))
            refine TE.nil ?_
            obtain ⟨hP2, hm2⟩ := hP
            have KF := Lib.hid (hm2.at kp10 (ref_ne HQ2.out.R kp10 (by decide)))
            have K10 := Lib.hid (hm2.at K9.out (ref_ne HQ2.out.R K9.out (by decide)))
            have HP2 := Lib.hid hP2
            clear hput hP2 hm2 kp10
            go_wp2_with fail
            go_meet
            exact ⟨q, c2, d, _, _, n, M, rfl, rfl, HP2, Lib.hid (HR1.out.put x.k x.a), HR2, Lib.hid (by have h1 := lenA m x.k x.a; have h3 := HLN.out; omega), K10, KF⟩
          ·
            go_upto_region 17 with fail
            have Lkp10 := lt_size kp10
            refine wp_pass0 (C := fun _ _ _ => False) (κ := fun i => [0, 0, 1, 0, 1, 5, 0].getD i 0) [0, 1, 2, 3, 4, 5, 6] (by kernel_rfl) (by kernel_rfl) (fun _ _ d _ _ h => by cases d <;> exact h) ?_
            (refine TD.val0 (v := ?v27) (by simp only [List.getElem?_toArray, List.getElem?_cons_succ, List.getElem?_cons_zero]; rfl) rfl ?hw27 (fun w1 => ?hy27) ?hn27; (case hw27 => rfl); (case hy27 => (go_simp; (try with_reducible rfl))); (try simp only [Act.put, List.setIfInBounds_toArray, List.set_cons_zero, List.set_cons_succ]))
            (refine TD.val0 (v := ?v28) (by simp only [List.getElem?_toArray, List.getElem?_cons_succ, List.getElem?_cons_zero]; rfl) rfl ?hw28 (fun w1 => ?hy28) ?hn28; (case hw28 => rfl); (case hy28 => (go_simp; (try with_reducible rfl))); (try simp only [Act.put, List.setIfInBounds_toArray, List.set_cons_zero, List.set_cons_succ]))
            (refine TD.load (v := ?v29) (p := ?p29) (Mod.refl _ _) (by simp only [List.getElem?_toArray, List.getElem?_cons_succ, List.getElem?_cons_zero]; rfl) rfl ?hw29 rfl ?hx29 (fun wq hSq => ?hy29) ?hn29; (case hw29 => rfl); (case hx29 => (simp only [Act.eval, Array.getD_eq_getD_getElem?, List.getElem?_toArray, List.getElem?_cons_succ, List.getElem?_cons_zero, Option.getD_some]; (try rfl))); (case hy29 => (have kp10q := hSq.at kp10 (fun h => h); go_simp; (try with_reducible rfl))); (try simp only [Act.put, List.setIfInBounds_toArray, List.set_cons_zero, List.set_cons_succ]))
            (refine TD.val0 (v := ?v30) (by simp only [List.getElem?_toArray, List.getElem?_cons_succ, List.getElem?_cons_zero]; rfl) rfl ?hw30 (fun w1 => ?hy30) ?hn30; (case hw30 => rfl); (case hy30 => (go_simp; (try with_reducible rfl))); (try simp only [Act.put, List.setIfInBounds_toArray, List.set_cons_zero, List.set_cons_succ]))
            (refine TD.load (v := ?v31) (p := ?p31) (Mod.refl _ _) (by simp only [List.getElem?_toArray, List.getElem?_cons_succ, List.getElem?_cons_zero]; rfl) rfl ?hw31 rfl ?hx31 (fun wq hSq => ?hy31) ?hn31; (case hw31 => rfl); (case hx31 => (simp only [Act.eval, Array.getD_eq_getD_getElem?, List.getElem?_toArray, List.getElem?_cons_succ, List.getElem?_cons_zero, Option.getD_some]; (try rfl))); (case hy31 => (have kp10q := hSq.at kp10 (fun h => h); go_simp; (try with_reducible rfl))); (try simp only [Act.put, List.setIfInBounds_toArray, List.set_cons_zero, List.set_cons_succ]))
            refine TD.eff (by simp only [List.getElem?_toArray, List.getElem?_cons_succ, List.getElem?_cons_zero]; rfl) rfl (fun w7 hr => ?_)
            have kp10 := hr.mod.at kp10 (fun h => h)
            have HQ := Lib.hid (HPS.out.mod0 hr.mod)
            have K7 := Lib.hid (hr.mod.at0 K3.out)
            have hput := HQ.out.put1 x.k x.a
            (refine eff_callP (by simp only [List.getElem?_toArray, List.getElem?_cons_succ, List.getElem?_cons_zero]; rfl) ?hw33 ?hy33 hput (fun wn hP => ?hn33); (case hw33 => rfl); (case hy33 => (go_simp; (try (first | with_reducible rfl | (constructor <;> with_reducible rfl))))); (try simp only [Act.put, List.setIfInBounds_toArray, List.set_cons_zero, List.set_cons_succ]))
            (refine TE.val0 (v := ?v34) (by simp only [List.getElem?_toArray, List.getElem?_cons_succ, List.getElem?_cons_zero]; rfl) ?hw34 (fun w1 => ?hy34) ?hn34; (case hw34 => rfl); (case hy34 => (go_simp; (try with_reducible rfl))); (try simp only [Act.put, List.setIfInBounds_toArray, List.set_cons_zero, List.set_cons_succ]))
            refine TE.nil ?_
            obtain ⟨hP1, hm1⟩ := hP
            replace kp10 := hm1.at kp10 (fun e => HQ.out.S.ne_cells kp10 e.symm)
            have K8 := Lib.hid (hm1.at K7.out (fun e => HQ.out.S.ne_cells K7.out e.symm))
            have HP1 := Lib.hid hP1
            clear hput hP1 hm1
            go_upto_region 19 with fail
            have Lkp10 := lt_size kp10
            refine wp_pass0 (C := fun _ _ _ => False) (κ := fun i => [0, 0, 1, 0, 1, 5].getD i 0) [0, 1, 2, 3, 4, 5] (by kernel_rfl) (by kernel_rfl) (fun _ _ d _ _ h => by cases d <;> exact h) ?_
            (refine TD.val0 (v := ?v35) (by simp only [List.getElem?_toArray, List.getElem?_cons_succ, List.getElem?_cons_zero]; rfl) rfl ?hw35 (fun w1 => ?hy35) ?hn35; (case hw35 => rfl); (case hy35 => (go_simp; (try with_reducible rfl))); (try simp only [Act.put, List.setIfInBounds_toArray, List.set_cons_zero, List.set_cons_succ]))
            (refine TD.val0 (v := ?v36) (by simp only [List.getElem?_toArray, List.getElem?_cons_succ, List.getElem?_cons_zero]; rfl) rfl ?hw36 (fun w1 => ?hy36) ?hn36; (case hw36 => rfl); (case hy36 => (go_simp; (try with_reducible rfl))); (try simp only [Act.put, List.setIfInBounds_toArray, List.set_cons_zero, List.set_cons_succ]))
            (refine TD.load (v := ?v37) (p := ?p37) (Mod.refl _ _) (by simp only [List.getElem?_toArray, List.getElem?_cons_succ, List.getElem?_cons_zero]; rfl) rfl ?hw37 rfl ?hx37 (fun wq hSq => ?hy37) ?hn37; (case hw37 => rfl); (case hx37 => (simp only [Act.eval, Array.getD_eq_getD_getElem?, List.getElem?_toArray, List.getElem?_cons_succ, List.getElem?_cons_zero, Option.getD_some]; (try rfl))); (case hy37 => (have kp10q := hSq.at kp10 (fun h => h); go_simp; (try with_reducible rfl))); (try simp only [Act.put, List.setIfInBounds_toArray, List.set_cons_zero, List.set_cons_succ]))
            (refine TD.val0 (v := ?v38) (by simp only [List.getElem?_toArray, List.getElem?_cons_succ, List.getElem?_cons_zero]; rfl) rfl ?hw38 (fun w1 => ?hy38) ?hn38; (case hw38 => rfl); (case hy38 => (go_simp; (try with_reducible rfl))); (try simp only [Act.put, List.setIfInBounds_toArray, List.set_cons_zero, List.set_cons_succ]))
            (refine TD.load (v := ?v39) (p := ?p39) (Mod.refl _ _) (by simp only [List.getElem?_toArray, List.getElem?_cons_succ, List.getElem?_cons_zero]; rfl) rfl ?hw39 rfl ?hx39 (fun wq hSq => ?hy39) ?hn39; (case hw39 => rfl); (case hx39 => (simp only [Act.eval, Array.getD_eq_getD_getElem?, List.getElem?_toArray, List.getElem?_cons_succ, List.getElem?_cons_zero, Option.getD_some]; (try rfl))); (case hy39 => (have kp10q := hSq.at kp10 (fun h => h); go_simp; (try with_reducible rfl))); (try simp only [Act.put, List.setIfInBounds_toArray, List.set_cons_zero, List.set_cons_succ]))
            refine TD.eff (by simp only [List.getElem?_toArray, List.getElem?_cons_succ, List.getElem?_cons_zero]; rfl) rfl (fun w8 hr => ?_)
            have kp10 := hr.mod.at kp10 (fun h => h)
            have HQ2 := Lib.hid (HP1.out.mod0 hr.mod)
            have K9 := Lib.hid (hr.mod.at0 K8.out)
            have hput := HQ2.out.put2 x.k x.a (by have h1 := HR1.out.len; have h2 := HR2.out.len; have h3 := HLN.out; omega)
            (refine eff_callP (by simp only [List.getElem?_toArray, List.getElem?_cons_succ, List.getElem?_cons_zero]; rfl) ?hw41 ?hy41 hput (fun wn hP => ?hn41); (case hw41 => rfl); (case hy41 => (go_simp; (try (first | with_reducible rfl | (constructor <;> with_reducible rfl))))); (try simp only [Act.put, List.setIfInBounds_toArray, List.set_cons_zero, List.set_cons_succ]))
            refine TE.nil ?_
            obtain ⟨hP2, hm2⟩ := hP
            have KF := Lib.hid (hm2.at kp10 (ref_ne HQ2.out.R kp10 (by decide)))
            have K10 := Lib.hid (hm2.at K9.out (ref_ne HQ2.out.R K9.out (by decide)))
            have HP2 := Lib.hid hP2
            clear hput hP2 hm2 kp10
            go_wp2_with fail
            go_meet
            exact ⟨q, c2, d, _, _, n, M, rfl, rfl, HP2, Lib.hid (HR1.out.put x.k x.a), HR2, Lib.hid (by have h1 := lenA m x.k x.a; have h3 := HLN.out; omega), K10, KF⟩
          ·
            go_upto_region 17 with fail
            have Lkp10 := lt_size kp10
            refine wp_pass0 (C := fun _ _ _ => False) (κ := fun i => [0, 0, 1, 0, 1, 5, 0].getD i 0) [0, 1, 2, 3, 4, 5, 6] (by kernel_rfl) (by kernel_rfl) (fun _ _ d _ _ h => by cases d <;> exact h) ?_
            (refine TD.val0 (v := ?v42) (by simp only [List.getElem?_toArray, List.getElem?_cons_succ, List.getElem?_cons_zero]; rfl) rfl ?hw42 (fun w1 => ?hy42) ?hn42; (case hw42 => rfl); (case hy42 => (go_simp; (try with_reducible rfl))); (try simp only [Act.put, List.setIfInBounds_toArray, List.set_cons_zero, List.set_cons_succ]))
            (refine TD.val0 (v := ?v43) (by simp only [List.getElem?_toArray, List.getElem?_cons_succ, List.getElem?_cons_zero]; rfl) rfl ?hw43 (fun w1 => ?hy43) ?hn43; (case hw43 => rfl); (case hy43 => (go_simp; (try with_reducible rfl))); (try simp only [Act.put, List.setIfInBounds_toArray, List.set_cons_zero, List.set_cons_succ]))
            (refine TD.load (v := ?v44) (p := ?p44) (Mod.refl _ _) (by simp only [List.getElem?_toArray, List.getElem?_cons_succ, List.getElem?_cons_zero]; rfl) rfl ?hw44 rfl ?hx44 (fun wq hSq => ?hy44) ?hn44; (case hw44 => rfl); (case hx44 => (simp only [Act.eval, Array.getD_eq_getD_getElem?, List.getElem?_toArray, List.getElem?_cons_succ, List.getElem?_cons_zero, Option.getD_some]; (try rfl))); (case hy44 => (have kp10q := hSq.at kp10 (fun h => h); go_simp; (try with_reducible rfl))); (try simp only [Act.put, List.setIfInBounds_toArray, List.set_cons_zero, List.set_cons_succ]))
            (refine TD.val0 (v := ?v45) (by simp only [List.getElem?_toArray, List.getElem?_cons_succ, List.getElem?_cons_zero]; rfl) rfl ?hw45 (fun w1 => ?hy45) ?hn45; (case hw45 => rfl); (case hy45 => (go_simp; (try with_reducible rfl))); (try simp only [Act.put, List.setIfInBounds_toArray, List.set_cons_zero, List.set_cons_succ]))
            (refine TD.load (v := ?v46) (p := ?p46) (Mod.refl _ _) (by simp only [List.getElem?_toArray, List.getElem?_cons_succ, List.getElem?_cons_zero]; rfl) rfl ?hw46 rfl ?hx46 (fun wq hSq => ?hy46) ?hn46; (case hw46 => rfl); (case hx46 => (simp only [Act.eval, Array.getD_eq_getD_getElem?, List.getElem?_toArray, List.getElem?_cons_succ, List.getElem?_cons_zero, Option.getD_some]; (try rfl))); (case hy46 => (have kp10q := hSq.at kp10 (fun h => h); go_simp; (try with_reducible rfl))); (try simp only [Act.put, List.setIfInBounds_toArray, List.set_cons_zero, List.set_cons_succ]))
            refine TD.eff (by simp only [List.getElem?_toArray, List.getElem?_cons_succ, List.getElem?_cons_zero]; rfl) rfl (fun w7 hr => ?_)
            have kp10 := hr.mod.at kp10 (fun h => h)
            have HQ := Lib.hid (HPS.out.mod0 hr.mod)
            have K7 := Lib.hid (hr.mod.at0 K3.out)
            have hput := HQ.out.put1 x.k x.a
            (refine eff_callP (by simp only [List.getElem?_toArray, List.getElem?_cons_succ, List.getElem?_cons_zero]; rfl) ?hw48 ?hy48 hput (fun wn hP => ?hn48); (case hw48 => rfl); (case hy48 => (go_simp; (try (first | with_reducible rfl | (constructor <;> with_reducible rfl))))); (try simp only [Act.put, List.setIfInBounds_toArray, List.set_cons_zero, List.set_cons_succ]))
            (refine TE.val0 (v := ?v49) (by simp only [List.getElem?_toArray, List.getElem?_cons_succ, List.getElem?_cons_zero]; rfl) ?hw49 (fun w1 => ?hy49) ?hn49; (case hw49 => rfl); (case hy49 => (go_simp; (try with_reducible rfl))); (try simp only [Act.put, List.setIfInBounds_toArray, List.set_cons_zero, List.set_cons_succ]))
            refine TE.nil ?_
            obtain ⟨hP1, hm1⟩ := hP
            replace kp10 := hm1.at kp10 (fun e => HQ.out.S.ne_cells kp10 e.symm)
            have K8 := Lib.hid (hm1.at K7.out (fun e => HQ.out.S.ne_cells K7.out e.symm))
            have HP1 := Lib.hid hP1
            clear hput hP1 hm1
            go_upto_region 19 with fail
            have Lkp10 := lt_size kp10
            refine wp_pass0 (C := fun _ _ _ => False) (κ := fun i => [0, 0, 1, 0, 1, 5].getD i 0) [0, 1, 2, 3, 4, 5] (by kernel_rfl) (by kernel_rfl) (fun _ _ d _ _ h => by cases d <;> exact h) ?_
            (refine TD.val0 (v := ?v50) (by simp only [List.getElem?_toArray, List.getElem?_cons_succ, List.getElem?_cons_zero]; rfl) rfl ?hw50 (fun w1 => ?hy50) ?hn50; (case hw50 => rfl); (case hy50 => (go_simp; (try with_reducible rfl))); (try simp only [Act.put, List.setIfInBounds_toArray, List.set_cons_zero, List.set_cons_succ]))
            (refine TD.val0 (v := ?v51) (by simp only [List.getElem?_toArray, List.getElem?_cons_succ, List.getElem?_cons_zero]; rfl) rfl ?hw51 (fun w1 => ?hy51) ?hn51; (case hw51 => rfl); (case hy51 => (go_simp; (try with_reducible rfl))); (try simp only [Act.put, List.setIfInBounds_toArray, List.set_cons_zero, List.set_cons_succ]))
            (refine TD.load (v := ?v52) (p := ?p52) (Mod.refl _ _) (by simp only [List.getElem?_toArray, List.getElem?_cons_succ, List.getElem?_cons_zero]; rfl) rfl ?hw52 rfl ?hx52 (fun wq hSq => ?hy52) ?hn52; (case hw52 => rfl); (case hx52 => (simp only [Act.eval, Array.getD_eq_getD_getElem?, List.getElem?_toArray, List.getElem?_cons_succ, List.getElem?_cons_zero, Option.getD_some]; (try rfl))); (case hy52 => (have kp10q := hSq.at kp10 (fun h => h); go_simp; (try with_reducible rfl))); (try simp only [Act.put, List.setIfInBounds_toArray, List.set_cons_zero, List.set_cons_succ]))
            (refine TD.val0 (v := ?v53) (by simp only [List.getElem?_toArray, List.getElem?_cons_succ, List.getElem?_cons_zero]; rfl) rfl ?hw53 (fun w1 => ?hy53) ?hn53; (case hw53 => rfl); (case hy53 => (go_simp; (try with_reducible rfl))); (try simp only [Act.put, List.setIfInBounds_toArray, List.set_cons_zero, List.set_cons_succ]))
            (refine TD.load (v := ?v54) (p := ?p54) (Mod.refl _ _) (by simp only [List.getElem?_toArray, List.getElem?_cons_succ, List.getElem?_cons_zero]; rfl) rfl ?hw54 rfl ?hx54 (fun wq hSq => ?hy54) ?hn54; (case hw54 => rfl); (case hx54 => (simp only [Act.eval, Array.getD_eq_getD_getElem?, List.getElem?_toArray, List.getElem?_cons_succ, List.getElem?_cons_zero, Option.getD_some]; (try rfl))); (case hy54 => (have kp10q := hSq.at kp10 (fun h => h); go_simp; (try with_reducible rfl))); (try simp only [Act.put, List.setIfInBounds_toArray, List.set_cons_zero, List.set_cons_succ]))
            refine TD.eff (by simp only [List.getElem?_toArray, List.getElem?_cons_succ, List.getElem?_cons_zero]; rfl) rfl (fun w8 hr => ?_)
            have kp10 := hr.mod.at kp10 (fun h => h)
            have HQ2 := Lib.hid (HP1.out.mod0 hr.mod)
            have K9 := Lib.hid (hr.mod.at0 K8.out)
            have hput := HQ2.out.put2 x.k x.a (by have h1 := HR1.out.len; have h2 := HR2.out.len; have h3 := HLN.out; omega)
            (refine eff_callP (by simp only [List.getElem?_toArray, List.getElem?_cons_succ, List.getElem?_cons_zero]; rfl) ?hw56 ?hy56 hput (fun wn hP => ?hn56); (case hw56 => rfl); (case hy56 => (go_simp; (try (first | with_reducible rfl | (constructor <;> with_reducible rfl))))); (try simp only [Act.put, List.setIfInBounds_toArray, List.set_cons_zero, List.set_cons_succ]))
            refine TE.nil ?_
            obtain ⟨hP2, hm2⟩ := hP
            have KF := Lib.hid (hm2.at kp10 (ref_ne HQ2.out.R kp10 (by decide)))
            have K10 := Lib.hid (hm2.at K9.out (ref_ne HQ2.out.R K9.out (by decide)))
            have HP2 := Lib.hid hP2
            clear hput hP2 hm2 kp10
            go_wp2_with fail
            go_meet
            exact ⟨q, c2, d, _, _, n, M, rfl, rfl, HP2, Lib.hid (HR1.out.put x.k x.a), HR2, Lib.hid (by have h1 := lenA m x.k x.a; have h3 := HLN.out; omega), K10, KF⟩
          ·
            go_upto_region 21 with fail
            have Lkp10 := lt_size kp10
            refine wp_pass0 (C := fun _ _ _ => False) (κ := fun i => [0, 0, 1, 0, 1, 5, 0].getD i 0) [0, 1, 2, 3, 4, 5, 6] (by kernel_rfl) (by kernel_rfl) (fun _ _ d _ _ h => by cases d <;> exact h) ?_
            (refine TD.val0 (v := ?v57) (by simp only [List.getElem?_toArray, List.getElem?_cons_succ, List.getElem?_cons_zero]; rfl) rfl ?hw57 (fun w1 => ?hy57) ?hn57; (case hw57 => rfl); (case hy57 => (go_simp; (try with_reducible rfl))); (try simp only [Act.put, List.setIfInBounds_toArray, List.set_cons_zero, List.set_cons_succ]))
            (refine TD.val0 (v := ?v58) (by simp only [List.getElem?_toArray, List.getElem?_cons_succ, List.getElem?_cons_zero]; rfl) rfl ?hw58 (fun w1 => ?hy58) ?hn58; (case hw58 => rfl); (case hy58 => (go_simp; (try with_reducible rfl))); (try simp only [Act.put, List.setIfInBounds_toArray, List.set_cons_zero, List.set_cons_succ]))
            (refine TD.load (v := ?v59) (p := ?p59) (Mod.refl _ _) (by simp only [List.getElem?_toArray, List.getElem?_cons_succ, List.getElem?_cons_zero]; rfl) rfl ?hw59 rfl ?hx59 (fun wq hSq => ?hy59) ?hn59; (case hw59 => rfl); (case hx59 => (simp only [Act.eval, Array.getD_eq_getD_getElem?, List.getElem?_toArray, List.getElem?_cons_succ, List.getElem?_cons_zero, Option.getD_some]; (try rfl))); (case hy59 => (have kp10q := hSq.at kp10 (fun h => h); go_simp; (try with_reducible rfl))); (try simp only [Act.put, List.setIfInBounds_toArray, List.set_cons_zero, List.set_cons_succ]))
            (refine TD.val0 (v := ?v60) (by simp only [List.getElem?_toArray, List.getElem?_cons_succ, List.getElem?_cons_zero]; rfl) rfl ?hw60 (fun w1 => ?hy60) ?hn60; (case hw60 => rfl); (case hy60 => (go_simp; (try with_reducible rfl))); (try simp only [Act.put, List.setIfInBounds_toArray, List.set_cons_zero, List.set_cons_succ]))
            (refine TD.load (v := ?v61) (p := ?p61) (Mod.refl _ _) (by simp only [List.getElem?_toArray, List.getElem?_cons_succ, List.getElem?_cons_zero]; rfl) rfl ?hw61 rfl ?hx61 (fun wq hSq => ?hy61) ?hn61; (case hw61 => rfl); (case hx61 => (simp only [Act.eval, Array.getD_eq_getD_getElem?, List.getElem?_toArray, List.getElem?_cons_succ, List.getElem?_cons_zero, Option.getD_some]; (try rfl))); (case hy61 => (have kp10q := hSq.at kp10 (fun h => h); go_simp; (try with_reducible rfl))); (try simp only [Act.put, List.setIfInBounds_toArray, List.set_cons_zero, List.set_cons_succ]))
            refine TD.eff (by simp only [List.getElem?_toArray, List.getElem?_cons_succ, List.getElem?_cons_zero]; rfl) rfl (fun w7 hr => ?_)
            have kp10 := hr.mod.at kp10 (fun h => h)
            have HQ := Lib.hid (HPS.out.mod0 hr.mod)
            have K7 := Lib.hid (hr.mod.at0 K3.out)
            have hput := HQ.out.put3 x.k x.a
            (refine eff_callP (by simp only [List.getElem?_toArray, List.getElem?_cons_succ, List.getElem?_cons_zero]; rfl) ?hw63 ?hy63 hput (fun wn hP => ?hn63); (case hw63 => rfl); (case hy63 => (go_simp; (try (first | with_reducible rfl | (constructor <;> with_reducible rfl))))); (try simp only [Act.put, List.setIfInBounds_toArray, List.set_cons_zero, List.set_cons_succ]))
            (refine TE.val0 (v := ?v64) (by simp only [List.getElem?_toArray, List.getElem?_cons_succ, List.getElem?_cons_zero]; rfl) ?hw64 (fun w1 => ?hy64) ?hn64; (case hw64 => rfl); (case hy64 => (go_simp; (try with_reducible rfl))); (try simp only [Act.put, List.setIfInBounds_toArray, List.set_cons_zero, List.set_cons_succ]))
            refine TE.nil ?_
            obtain ⟨hP1, hm1⟩ := hP
            replace kp10 := hm1.at kp10 (fun e => HQ.out.C.ne_cells kp10 e.symm)
            have K8 := Lib.hid (hm1.at K7.out (fun e => HQ.out.C.ne_cells K7.out e.symm))
            have HP1 := Lib.hid hP1
            clear hput hP1 hm1
            go_upto_region 23 with fail
            have Lkp10 := lt_size kp10
            refine wp_pass0 (C := fun _ _ _ => False) (κ := fun i => [0, 0, 1, 0, 1, 5].getD i 0) [0, 1, 2, 3, 4, 5] (by kernel_rfl) (by kernel_rfl) (fun _ _ d _ _ h => by cases d <;> exact h) ?_
            (refine TD.val0 (v := ?v65) (by simp only [List.getElem?_toArray, List.getElem?_cons_succ, List.getElem?_cons_zero]; rfl) rfl ?hw65 (fun w1 => ?hy65) ?hn65; (case hw65 => rfl); (case hy65 => (go_simp; (try with_reducible rfl))); (try simp only [Act.put, List.setIfInBounds_toArray, List.set_cons_zero, List.set_cons_succ]))
            (refine TD.val0 (v := ?v66) (by simp only [List.getElem?_toArray, List.getElem?_cons_succ, List.getElem?_cons_zero]; rfl) rfl ?hw66 (fun w1 => ?hy66) ?hn66; (case hw66 => rfl); (case hy66 => (go_simp; (try with_reducible rfl))); (try simp only [Act.put, List.setIfInBounds_toArray, List.set_cons_zero, List.set_cons_succ]))
            (refine TD.load (v := ?v67) (p := ?p67) (Mod.refl _ _) (by simp only [List.getElem?_toArray, List.getElem?_cons_succ, List.getElem?_cons_zero]; rfl) rfl ?hw67 rfl ?hx67 (fun wq hSq => ?hy67) ?hn67; (case hw67 => rfl); (case hx67 => (simp only [Act.eval, Array.getD_eq_getD_getElem?, List.getElem?_toArray, List.getElem?_cons_succ, List.getElem?_cons_zero, Option.getD_some]; (try rfl))); (case hy67 => (have kp10q := hSq.at kp10 (fun h => h); go_simp; (try with_reducible rfl))); (try simp only [Act.put, List.setIfInBounds_toArray, List.set_cons_zero, List.set_cons_succ]))
            (refine TD.val0 (v := ?v68) (by simp only [List.getElem?_toArray, List.getElem?_cons_succ, List.getElem?_cons_zero]; rfl) rfl ?hw68 (fun w1 => ?hy68) ?hn68; (case hw68 => rfl); (case hy68 => (go_simp; (try with_reducible rfl))); (try simp only [Act.put, List.setIfInBounds_toArray, List.set_cons_zero, List.set_cons_succ]))
            (refine TD.load (v := ?v69) (p := ?p69) (Mod.refl _ _) (by simp only [List.getElem?_toArray, List.getElem?_cons_succ, List.getElem?_cons_zero]; rfl) rfl ?hw69 rfl ?hx69 (fun wq hSq => ?hy69) ?hn69; (case hw69 => rfl); (case hx69 => (simp only [Act.eval, Array.getD_eq_getD_getElem?, List.getElem?_toArray, List.getElem?_cons_succ, List.getElem?_cons_zero, Option.getD_some]; (try rfl))); (case hy69 => (have kp10q := hSq.at kp10 (fun h => h); go_simp; (try with_reducible rfl))); (try simp only [Act.put, List.setIfInBounds_toArray, List.set_cons_zero, List.set_cons_succ]))
            refine TD.eff (by simp only [List.getElem?_toArray, List.getElem?_cons_succ, List.getElem?_cons_zero]; rfl) rfl (fun w8 hr => ?_)
            have kp10 := hr.mod.at kp10 (fun h => h)
            have HQ2 := Lib.hid (HP1.out.mod0 hr.mod)
            have K9 := Lib.hid (hr.mod.at0 K8.out)
            have hput := HQ2.out.put4 x.k x.a (by have h1 := HR1.out.len; have h2 := HR2.out.len; have h3 := HLN.out; omega)
            (refine eff_callP (by simp only [List.getElem?_toArray, List.getElem?_cons_succ, List.getElem?_cons_zero]; rfl) ?hw71 ?hy71 hput (fun wn hP => ?hn71); (case hw71 => rfl); (case hy71 => (go_simp; (try (first | with_reducible rfl | (constructor <;> with_reducible rfl))))); (try simp only [Act.put, List.setIfInBounds_toArray, List.set_cons_zero, List.set_cons_succ]))
            refine TE.nil ?_
            obtain ⟨hP2, hm2⟩ := hP
            have KF := Lib.hid (hm2.at kp10 (ref_ne HQ2.out.D kp10 (by decide)))
            have K10 := Lib.hid (hm2.at K9.out (ref_ne HQ2.out.D K9.out (by decide)))
            have HP2 := Lib.hid hP2
            clear hput hP2 hm2 kp10
            go_wp2_with fail
            go_meet
            exact ⟨q, c2, d, m, L, _, _, rfl, rfl, HP2, HR1, Lib.hid (HR2.out.put x.k x.a), Lib.hid (by have h1 := lenA n x.k x.a; have h3 := HLN.out; omega), K10, KF⟩
          · go_wp2_with fail
            go_at_call 15
            refine (copy_c p b m _ HPS.out.S).mono ?_
            rintro e w7 ⟨q', cc', rfl, hq, hcc, hC, m4⟩
            have HQ := Lib.hid (HPS.out.mod0 m4)
            have HC := Lib.hid hC
            have hbc : b ≠ cc' := by have := HPS.out.S.lt; omega
            have hcw : w.heap.size ≤ cc' := Nat.le_trans HPS.out.mod.size hcc
            have K7 := Lib.hid (m4.at0 K3.out)
            replace kp10 := m4.at0 kp10
            have HX := Lib.hid (And.intro hbc hcw)
            clear hC hq hcc m4 hbc hcw
            go_wp2_with fail
            go_at_call 16
            refine (rcopy_c p23 L _ HQ.out.R (by have h1 := HR1.out.len; have h3 := HLN.out; omega)).mono ?_
            rintro e w8 ⟨d', rfl, hd', hD, m5⟩
            have HF : Hid (PS w w8 p b p23 q' cc' d' m L m L) := Lib.hid ⟨HQ.out.S.mod0 m5, HQ.out.R.mod0 m5, HC.out.mod0 m5, hD, HX.out.1, by have := HQ.out.R.lt; omega, HQ.out.nb, HX.out.2, HQ.out.nr, Nat.le_trans HQ.out.mod.size hd', HQ.out.mod.then0 m5⟩
            have K8 := Lib.hid (m5.at0 K7.out)
            have KF := Lib.hid (m5.at0 kp10)
            clear hd' hD m5 kp10
            go_wp2_with fail
            go_meet
            exact ⟨q', cc', d', m, L, m, L, rfl, rfl, HF, HR1, HR1, Lib.hid (by have h3 := HLN.out; omega), K8, KF⟩
        case rest =>
          clear HPS HR1 HR2 HLN K3 KP kp10 HKK h0 h5 PH
          obtain ⟨q, c2, d, m, L, n, M, rfl, rfl, HPS, HR1, HR2, HLN, K3, KP⟩ := hcut
          have HL2 : Hid (L.length ≤ 151 ∧ M.length ≤ 151) := Lib.hid (by have h1 := HR1.out.len; have h2 := HR2.out.len; have h3 := HLN.out; omega)
          obtain ⟨y, hy⟩ : ∃ y, getA m x.k = y := ⟨_, rfl⟩
          obtain ⟨z, hz⟩ : ∃ z, getA n x.k = z := ⟨_, rfl⟩
          obtain ⟨t, ht⟩ : ∃ t, decide (L = M) = t := ⟨_, rfl⟩
          obtain ⟨u, hu⟩ : ∃ u, getA m ask = u := ⟨_, rfl⟩
          have ht2 : decide (M = L) = t := by
            rw [← ht, Bool.eq_iff_iff, decide_eq_true_eq, decide_eq_true_eq]
            exact eq_comm
          have EY := Lib.hid hy
          have EZ := Lib.hid hz
          have ET := Lib.hid ht
          have ET2 := Lib.hid ht2
          have EU := Lib.hid hu
          clear hy hz ht hu ht2
          have kp10 := KP.out
          have kp3 := K3.out
          go_upto_region 24 with fail
          have Lkp10 := lt_size kp10
          have Lkp3 := lt_size kp3
          refine wp_gpass (T0 := fun _ => False) (K := fun _ _ => True) (κ := fun i => [0, 0, 0, 6, 0, 0, 0, 6, 0, 0, 0, 0, 0, 6, 0, 0, 0, 6, 0, 0, 0, 0, 0, 6, 0, 0, 6, 0, 0, 0, 0, 0, 6, 0, 0, 6, 0, 0, 0, 0, 0, 6, 0, 0, 6, 0, 0].getD i 0) (υ := fun i => [[], [], [], [], [], [], [], [], [], [], [], [], [], [], [], [], [], [], [], [], [], [], [], [], [], [], [], [], [], [], [], [], [], [], [], [], [], [], [], [], [], [], [], [], [], [], []].getD i []) [0, 1, 2, 3, 4, 5, 6, 7, 8, 9, 10, 11, 12, 13, 14, 15, 16, 17, 18, 19, 20, 21, 22, 23, 24, 25, 26, 27, 28, 29, 30, 31, 32, 33, 34, 35, 36, 37, 38, 39, 40, 41, 42, 43, 44, 45, 46] (by kernel_rfl) (by kernel_rfl) (Good.true).cl (trivial) (fun _ h => h.elim) ?_
          have gK := Good.true
          (refine TG.v0 (v := ?v72) (by simp only [List.getElem?_toArray, List.getElem?_cons_succ, List.getElem?_cons_zero]; rfl) rfl ?hw72 (fun w1 => ?hy72) ?hn72; (case hw72 => rfl); (case hy72 => (go_simp; (try with_reducible rfl))); (try simp only [Act.put, List.setIfInBounds_toArray, List.set_cons_zero, List.set_cons_succ]))
          (refine TG.v0 (v := ?v73) (by simp only [List.getElem?_toArray, List.getElem?_cons_succ, List.getElem?_cons_zero]; rfl) rfl ?hw73 (fun w1 => ?hy73) ?hn73; (case hw73 => rfl); (case hy73 => (go_simp; (try with_reducible rfl))); (try simp only [Act.put, List.setIfInBounds_toArray, List.set_cons_zero, List.set_cons_succ]))
          (refine TG.load (v := ?v74) (p := ?p74) (by simp only [List.getElem?_toArray, List.getElem?_cons_succ, List.getElem?_cons_zero]; rfl) rfl ?hw74 rfl ?hx74 (fun wq hSq => ?hy74) ?hn74; (case hw74 => rfl); (case hx74 => (simp only [Act.eval, Array.getD_eq_getD_getElem?, List.getElem?_toArray, List.getElem?_cons_succ, List.getElem?_cons_zero, Option.getD_some]; (try rfl))); (case hy74 => (have kp10q := hSq.at kp10 (by intro hT; first | exact hT | exact absurd hT (by assumption) | (simp only at hT; omega)); have kp3q := hSq.at kp3 (by intro hT; first | exact hT | exact absurd hT (by assumption) | (simp only at hT; omega)); go_simp; (try with_reducible rfl))); (try simp only [Act.put, List.setIfInBounds_toArray, List.set_cons_zero, List.set_cons_succ]))
          (refine TG.callN (f := ?f75) (args := ?r75) (fun v => v = .agg (av y)) gK (by simp only [List.getElem?_toArray, List.getElem?_cons_succ, List.getElem?_cons_zero]; rfl) rfl ?hw75 (fun w1 => ?hy75) (fun T wq kq ltq hSq ub => ?hsp75) ?hn75; (case hw75 => rfl); (case hy75 => (go_simp; (first | with_reducible rfl | (constructor <;> with_reducible rfl)))); (case hsp75 => (have kp10q := hSq.at kp10 (by intro hT; first | exact hT | exact absurd hT (by assumption) | (simp only at hT; omega)); have kp3q := hSq.at kp3 (by intro hT; first | exact hT | exact absurd hT (by assumption) | (simp only at hT; omega)); exact (get_c p b m x.k wq (HPS.out.mod0 hSq).S).mono (fun e w' h => ⟨_, h.1, by rw [EY.out], h.2⟩))); rintro v75 hC; subst hC; (try simp only [Act.put, List.setIfInBounds_toArray, List.set_cons_zero, List.set_cons_succ]))
          (refine TG.v0 (v := ?v76) (by simp only [List.getElem?_toArray, List.getElem?_cons_succ, List.getElem?_cons_zero]; rfl) rfl ?hw76 (fun w1 => ?hy76) ?hn76; (case hw76 => rfl); (case hy76 => (go_simp; (try with_reducible rfl))); (try simp only [Act.put, List.setIfInBounds_toArray, List.set_cons_zero, List.set_cons_succ]))
          (refine TG.v0 (v := ?v77) (by simp only [List.getElem?_toArray, List.getElem?_cons_succ, List.getElem?_cons_zero]; rfl) rfl ?hw77 (fun w1 => ?hy77) ?hn77; (case hw77 => rfl); (case hy77 => (go_simp; (try with_reducible rfl))); (try simp only [Act.put, List.setIfInBounds_toArray, List.set_cons_zero, List.set_cons_succ]))
          (refine TG.load (v := ?v78) (p := ?p78) (by simp only [List.getElem?_toArray, List.getElem?_cons_succ, List.getElem?_cons_zero]; rfl) rfl ?hw78 rfl ?hx78 (fun wq hSq => ?hy78) ?hn78; (case hw78 => rfl); (case hx78 => (simp only [Act.eval, Array.getD_eq_getD_getElem?, List.getElem?_toArray, List.getElem?_cons_succ, List.getElem?_cons_zero, Option.getD_some]; (try rfl))); (case hy78 => (have kp10q := hSq.at kp10 (by intro hT; first | exact hT | exact absurd hT (by assumption) | (simp only at hT; omega)); have kp3q := hSq.at kp3 (by intro hT; first | exact hT | exact absurd hT (by assumption) | (simp only at hT; omega)); go_simp; (try with_reducible rfl))); (try simp only [Act.put, List.setIfInBounds_toArray, List.set_cons_zero, List.set_cons_succ]))
          (refine TG.callN (f := ?f79) (args := ?r79) (fun v => v = .agg (av y)) gK (by simp only [List.getElem?_toArray, List.getElem?_cons_succ, List.getElem?_cons_zero]; rfl) rfl ?hw79 (fun w1 => ?hy79) (fun T wq kq ltq hSq ub => ?hsp79) ?hn79; (case hw79 => rfl); (case hy79 => (go_simp; (first | with_reducible rfl | (constructor <;> with_reducible rfl)))); (case hsp79 => (have kp10q := hSq.at kp10 (by intro hT; first | exact hT | exact absurd hT (by assumption) | (simp only at hT; omega)); have kp3q := hSq.at kp3 (by intro hT; first | exact hT | exact absurd hT (by assumption) | (simp only at hT; omega)); exact (rget_c p23 L x.k wq (HPS.out.mod0 hSq).R (by have := HL2.out; omega)).mono (fun e w' h => ⟨_, h.1, by rw [HR1.out.get, EY.out], h.2⟩))); rintro v79 hC; subst hC; (try simp only [Act.put, List.setIfInBounds_toArray, List.set_cons_zero, List.set_cons_succ]))
          (refine TG.v0 (v := ?v80) (by simp only [List.getElem?_toArray, List.getElem?_cons_succ, List.getElem?_cons_zero]; rfl) rfl ?hw80 (fun w1 => ?hy80) ?hn80; (case hw80 => rfl); (case hy80 => (go_simp; (try with_reducible rfl))); (try simp only [Act.put, List.setIfInBounds_toArray, List.set_cons_zero, List.set_cons_succ]))
          (refine TG.v0 (v := ?v81) (by simp only [List.getElem?_toArray, List.getElem?_cons_succ, List.getElem?_cons_zero]; rfl) rfl ?hw81 (fun w1 => ?hy81) ?hn81; (case hw81 => rfl); (case hy81 => (go_simp; (try with_reducible rfl))); (try simp only [Act.put, List.setIfInBounds_toArray, List.set_cons_zero, List.set_cons_succ]))
          (refine TG.v0 (v := ?v82) (by simp only [List.getElem?_toArray, List.getElem?_cons_succ, List.getElem?_cons_zero]; rfl) rfl ?hw82 (fun w1 => ?hy82) ?hn82; (case hw82 => rfl); (case hy82 => (go_simp; (try with_reducible rfl))); (try simp only [Act.put, List.setIfInBounds_toArray, List.set_cons_zero, List.set_cons_succ]))
          (refine TG.v0 (v := ?v83) (by simp only [List.getElem?_toArray, List.getElem?_cons_succ, List.getElem?_cons_zero]; rfl) rfl ?hw83 (fun w1 => ?hy83) ?hn83; (case hw83 => rfl); (case hy83 => (go_simp; (try with_reducible rfl))); (try simp only [Act.put, List.setIfInBounds_toArray, List.set_cons_zero, List.set_cons_succ]))
          (refine TG.load (v := ?v84) (p := ?p84) (by simp only [List.getElem?_toArray, List.getElem?_cons_succ, List.getElem?_cons_zero]; rfl) rfl ?hw84 rfl ?hx84 (fun wq hSq => ?hy84) ?hn84; (case hw84 => rfl); (case hx84 => (simp only [Act.eval, Array.getD_eq_getD_getElem?, List.getElem?_toArray, List.getElem?_cons_succ, List.getElem?_cons_zero, Option.getD_some]; (try rfl))); (case hy84 => (have kp10q := hSq.at kp10 (by intro hT; first | exact hT | exact absurd hT (by assumption) | (simp only at hT; omega)); have kp3q := hSq.at kp3 (by intro hT; first | exact hT | exact absurd hT (by assumption) | (simp only at hT; omega)); go_simp; (try with_reducible rfl))); (try simp only [Act.put, List.setIfInBounds_toArray, List.set_cons_zero, List.set_cons_succ]))
          (refine TG.callN (f := ?f85) (args := ?r85) (fun v => v = .agg (av z)) gK (by simp only [List.getElem?_toArray, List.getElem?_cons_succ, List.getElem?_cons_zero]; rfl) rfl ?hw85 (fun w1 => ?hy85) (fun T wq kq ltq hSq ub => ?hsp85) ?hn85; (case hw85 => rfl); (case hy85 => (go_simp; (first | with_reducible rfl | (constructor <;> with_reducible rfl)))); (case hsp85 => (have kp10q := hSq.at kp10 (by intro hT; first | exact hT | exact absurd hT (by assumption) | (simp only at hT; omega)); have kp3q := hSq.at kp3 (by intro hT; first | exact hT | exact absurd hT (by assumption) | (simp only at hT; omega)); exact (get_c q c2 n x.k wq (HPS.out.mod0 hSq).C).mono (fun e w' h => ⟨_, h.1, by rw [EZ.out], h.2⟩))); rintro v85 hC; subst hC; (try simp only [Act.put, List.setIfInBounds_toArray, List.set_cons_zero, List.set_cons_succ]))
          (refine TG.v0 (v := ?v86) (by simp only [List.getElem?_toArray, List.getElem?_cons_succ, List.getElem?_cons_zero]; rfl) rfl ?hw86 (fun w1 => ?hy86) ?hn86; (case hw86 => rfl); (case hy86 => (go_simp; (try with_reducible rfl))); (try simp only [Act.put, List.setIfInBounds_toArray, List.set_cons_zero, List.set_cons_succ]))
          (refine TG.v0 (v := ?v87) (by simp only [List.getElem?_toArray, List.getElem?_cons_succ, List.getElem?_cons_zero]; rfl) rfl ?hw87 (fun w1 => ?hy87) ?hn87; (case hw87 => rfl); (case hy87 => (go_simp; (try with_reducible rfl))); (try simp only [Act.put, List.setIfInBounds_toArray, List.set_cons_zero, List.set_cons_succ]))
          (refine TG.load (v := ?v88) (p := ?p88) (by simp only [List.getElem?_toArray, List.getElem?_cons_succ, List.getElem?_cons_zero]; rfl) rfl ?hw88 rfl ?hx88 (fun wq hSq => ?hy88) ?hn88; (case hw88 => rfl); (case hx88 => (simp only [Act.eval, Array.getD_eq_getD_getElem?, List.getElem?_toArray, List.getElem?_cons_succ, List.getElem?_cons_zero, Option.getD_some]; (try rfl))); (case hy88 => (have kp10q := hSq.at kp10 (by intro hT; first | exact hT | exact absurd hT (by assumption) | (simp only at hT; omega)); have kp3q := hSq.at kp3 (by intro hT; first | exact hT | exact absurd hT (by assumption) | (simp only at hT; omega)); go_simp; (try with_reducible rfl))); (try simp only [Act.put, List.setIfInBounds_toArray, List.set_cons_zero, List.set_cons_succ]))
          (refine TG.callN (f := ?f89) (args := ?r89) (fun v => v = .agg (av z)) gK (by simp only [List.getElem?_toArray, List.getElem?_cons_succ, List.getElem?_cons_zero]; rfl) rfl ?hw89 (fun w1 => ?hy89) (fun T wq kq ltq hSq ub => ?hsp89) ?hn89; (case hw89 => rfl); (case hy89 => (go_simp; (first | with_reducible rfl | (constructor <;> with_reducible rfl)))); (case hsp89 => (have kp10q := hSq.at kp10 (by intro hT; first | exact hT | exact absurd hT (by assumption) | (simp only at hT; omega)); have kp3q := hSq.at kp3 (by intro hT; first | exact hT | exact absurd hT (by assumption) | (simp only at hT; omega)); exact (rget_c d M x.k wq (HPS.out.mod0 hSq).D (by have := HL2.out; omega)).mono (fun e w' h => ⟨_, h.1, by rw [HR2.out.get, EZ.out], h.2⟩))); rintro v89 hC; subst hC; (try simp only [Act.put, List.setIfInBounds_toArray, List.set_cons_zero, List.set_cons_succ]))
          (refine TG.v0 (v := ?v90) (by simp only [List.getElem?_toArray, List.getElem?_cons_succ, List.getElem?_cons_zero]; rfl) rfl ?hw90 (fun w1 => ?hy90) ?hn90; (case hw90 => rfl); (case hy90 => (go_simp; (try with_reducible rfl))); (try simp only [Act.put, List.setIfInBounds_toArray, List.set_cons_zero, List.set_cons_succ]))
          (refine TG.v0 (v := ?v91) (by simp only [List.getElem?_toArray, List.getElem?_cons_succ, List.getElem?_cons_zero]; rfl) rfl ?hw91 (fun w1 => ?hy91) ?hn91; (case hw91 => rfl); (case hy91 => (go_simp; (try with_reducible rfl))); (try simp only [Act.put, List.setIfInBounds_toArray, List.set_cons_zero, List.set_cons_succ]))
          (refine TG.v0 (v := ?v92) (by simp only [List.getElem?_toArray, List.getElem?_cons_succ, List.getElem?_cons_zero]; rfl) rfl ?hw92 (fun w1 => ?hy92) ?hn92; (case hw92 => rfl); (case hy92 => (go_simp; (try with_reducible rfl))); (try simp only [Act.put, List.setIfInBounds_toArray, List.set_cons_zero, List.set_cons_succ]))
          (refine TG.v0 (v := ?v93) (by simp only [List.getElem?_toArray, List.getElem?_cons_succ, List.getElem?_cons_zero]; rfl) rfl ?hw93 (fun w1 => ?hy93) ?hn93; (case hw93 => rfl); (case hy93 => (go_simp; (try with_reducible rfl))); (try simp only [Act.put, List.setIfInBounds_toArray, List.set_cons_zero, List.set_cons_succ]))
          (refine TG.v0 (v := ?v94) (by simp only [List.getElem?_toArray, List.getElem?_cons_succ, List.getElem?_cons_zero]; rfl) rfl ?hw94 (fun w1 => ?hy94) ?hn94; (case hw94 => rfl); (case hy94 => (go_simp; (try with_reducible rfl))); (try simp only [Act.put, List.setIfInBounds_toArray, List.set_cons_zero, List.set_cons_succ]))
          (refine TG.callN (f := ?f95) (args := ?r95) (fun v => v = .bool t) gK (by simp only [List.getElem?_toArray, List.getElem?_cons_succ, List.getElem?_cons_zero]; rfl) rfl ?hw95 (fun w1 => ?hy95) (fun T wq kq ltq hSq ub => ?hsp95) ?hn95; (case hw95 => rfl); (case hy95 => (go_simp; (first | with_reducible rfl | (constructor <;> with_reducible rfl)))); (case hsp95 => (have kp10q := hSq.at kp10 (by intro hT; first | exact hT | exact absurd hT (by assumption) | (simp only at hT; omega)); have kp3q := hSq.at kp3 (by intro hT; first | exact hT | exact absurd hT (by assumption) | (simp only at hT; omega)); exact (same2_c p b q c2 m n wq (HPS.out.mod0 hSq).S (HPS.out.mod0 hSq).C).mono (fun e w' h => ⟨_, h.1, by rw [HR1.out.same HR2.out, ET.out], h.2⟩))); rintro v95 hC; subst hC; (try simp only [Act.put, List.setIfInBounds_toArray, List.set_cons_zero, List.set_cons_succ]))
          (refine TG.v0 (v := ?v96) (by simp only [List.getElem?_toArray, List.getElem?_cons_succ, List.getElem?_cons_zero]; rfl) rfl ?hw96 (fun w1 => ?hy96) ?hn96; (case hw96 => rfl); (case hy96 => (go_simp; (try with_reducible rfl))); (try simp only [Act.put, List.setIfInBounds_toArray, List.set_cons_zero, List.set_cons_succ]))
          (refine TG.v0 (v := ?v97) (by simp only [List.getElem?_toArray, List.getElem?_cons_succ, List.getElem?_cons_zero]; rfl) rfl ?hw97 (fun w1 => ?hy97) ?hn97; (case hw97 => rfl); (case hy97 => (go_simp; (try with_reducible rfl))); (try simp only [Act.put, List.setIfInBounds_toArray, List.set_cons_zero, List.set_cons_succ]))
          (refine TG.callN (f := ?f98) (args := ?r98) (fun v => v = .bool t) gK (by simp only [List.getElem?_toArray, List.getElem?_cons_succ, List.getElem?_cons_zero]; rfl) rfl ?hw98 (fun w1 => ?hy98) (fun T wq kq ltq hSq ub => ?hsp98) ?hn98; (case hw98 => rfl); (case hy98 => (go_simp; (first | with_reducible rfl | (constructor <;> with_reducible rfl)))); (case hsp98 => (have kp10q := hSq.at kp10 (by intro hT; first | exact hT | exact absurd hT (by assumption) | (simp only at hT; omega)); have kp3q := hSq.at kp3 (by intro hT; first | exact hT | exact absurd hT (by assumption) | (simp only at hT; omega)); exact (rsame_c p23 d L M wq (HPS.out.mod0 hSq).R (HPS.out.mod0 hSq).D (by have := HL2.out; omega) (by have := HL2.out; omega)).mono (fun e w' h => ⟨_, h.1, by rw [ET.out], h.2⟩))); rintro v98 hC; subst hC; (try simp only [Act.put, List.setIfInBounds_toArray, List.set_cons_zero, List.set_cons_succ]))
          (refine TG.v0 (v := ?v99) (by simp only [List.getElem?_toArray, List.getElem?_cons_succ, List.getElem?_cons_zero]; rfl) rfl ?hw99 (fun w1 => ?hy99) ?hn99; (case hw99 => rfl); (case hy99 => (go_simp; (try with_reducible rfl))); (try simp only [Act.put, List.setIfInBounds_toArray, List.set_cons_zero, List.set_cons_succ]))
          (refine TG.v0 (v := ?v100) (by simp only [List.getElem?_toArray, List.getElem?_cons_succ, List.getElem?_cons_zero]; rfl) rfl ?hw100 (fun w1 => ?hy100) ?hn100; (case hw100 => rfl); (case hy100 => (go_simp; (try with_reducible rfl))); (try simp only [Act.put, List.setIfInBounds_toArray, List.set_cons_zero, List.set_cons_succ]))
          (refine TG.v0 (v := ?v101) (by simp only [List.getElem?_toArray, List.getElem?_cons_succ, List.getElem?_cons_zero]; rfl) rfl ?hw101 (fun w1 => ?hy101) ?hn101; (case hw101 => rfl); (case hy101 => (go_simp; (try with_reducible rfl))); (try simp only [Act.put, List.setIfInBounds_toArray, List.set_cons_zero, List.set_cons_succ]))
          (refine TG.v0 (v := ?v102) (by simp only [List.getElem?_toArray, List.getElem?_cons_succ, List.getElem?_cons_zero]; rfl) rfl ?hw102 (fun w1 => ?hy102) ?hn102; (case hw102 => rfl); (case hy102 => (go_simp; (try with_reducible rfl))); (try simp only [Act.put, List.setIfInBounds_toArray, List.set_cons_zero, List.set_cons_succ]))
          (refine TG.v0 (v := ?v103) (by simp only [List.getElem?_toArray, List.getElem?_cons_succ, List.getElem?_cons_zero]; rfl) rfl ?hw103 (fun w1 => ?hy103) ?hn103; (case hw103 => rfl); (case hy103 => (go_simp; (try with_reducible rfl))); (try simp only [Act.put, List.setIfInBounds_toArray, List.set_cons_zero, List.set_cons_succ]))
          (refine TG.callN (f := ?f104) (args := ?r104) (fun v => v = .bool t) gK (by simp only [List.getElem?_toArray, List.getElem?_cons_succ, List.getElem?_cons_zero]; rfl) rfl ?hw104 (fun w1 => ?hy104) (fun T wq kq ltq hSq ub => ?hsp104) ?hn104; (case hw104 => rfl); (case hy104 => (go_simp; (first | with_reducible rfl | (constructor <;> with_reducible rfl)))); (case hsp104 => (have kp10q := hSq.at kp10 (by intro hT; first | exact hT | exact absurd hT (by assumption) | (simp only at hT; omega)); have kp3q := hSq.at kp3 (by intro hT; first | exact hT | exact absurd hT (by assumption) | (simp only at hT; omega)); exact (same2_c q c2 p b n m wq (HPS.out.mod0 hSq).C (HPS.out.mod0 hSq).S).mono (fun e w' h => ⟨_, h.1, by rw [HR2.out.same HR1.out, ET2.out], h.2⟩))); rintro v104 hC; subst hC; (try simp only [Act.put, List.setIfInBounds_toArray, List.set_cons_zero, List.set_cons_succ]))
          (refine TG.v0 (v := ?v105) (by simp only [List.getElem?_toArray, List.getElem?_cons_succ, List.getElem?_cons_zero]; rfl) rfl ?hw105 (fun w1 => ?hy105) ?hn105; (case hw105 => rfl); (case hy105 => (go_simp; (try with_reducible rfl))); (try simp only [Act.put, List.setIfInBounds_toArray, List.set_cons_zero, List.set_cons_succ]))
          (refine TG.v0 (v := ?v106) (by simp only [List.getElem?_toArray, List.getElem?_cons_succ, List.getElem?_cons_zero]; rfl) rfl ?hw106 (fun w1 => ?hy106) ?hn106; (case hw106 => rfl); (case hy106 => (go_simp; (try with_reducible rfl))); (try simp only [Act.put, List.setIfInBounds_toArray, List.set_cons_zero, List.set_cons_succ]))
          (refine TG.callN (f := ?f107) (args := ?r107) (fun v => v = .bool t) gK (by simp only [List.getElem?_toArray, List.getElem?_cons_succ, List.getElem?_cons_zero]; rfl) rfl ?hw107 (fun w1 => ?hy107) (fun T wq kq ltq hSq ub => ?hsp107) ?hn107; (case hw107 => rfl); (case hy107 => (go_simp; (first | with_reducible rfl | (constructor <;> with_reducible rfl)))); (case hsp107 => (have kp10q := hSq.at kp10 (by intro hT; first | exact hT | exact absurd hT (by assumption) | (simp only at hT; omega)); have kp3q := hSq.at kp3 (by intro hT; first | exact hT | exact absurd hT (by assumption) | (simp only at hT; omega)); exact (rsame_c p23 d L M wq (HPS.out.mod0 hSq).R (HPS.out.mod0 hSq).D (by have := HL2.out; omega) (by have := HL2.out; omega)).mono (fun e w' h => ⟨_, h.1, by rw [ET.out], h.2⟩))); rintro v107 hC; subst hC; (try simp only [Act.put, List.setIfInBounds_toArray, List.set_cons_zero, List.set_cons_succ]))
          (refine TG.v0 (v := ?v108) (by simp only [List.getElem?_toArray, List.getElem?_cons_succ, List.getElem?_cons_zero]; rfl) rfl ?hw108 (fun w1 => ?hy108) ?hn108; (case hw108 => rfl); (case hy108 => (go_simp; (try with_reducible rfl))); (try simp only [Act.put, List.setIfInBounds_toArray, List.set_cons_zero, List.set_cons_succ]))
          (refine TG.v0 (v := ?v109) (by simp only [List.getElem?_toArray, List.getElem?_cons_succ, List.getElem?_cons_zero]; rfl) rfl ?hw109 (fun w1 => ?hy109) ?hn109; (case hw109 => rfl); (case hy109 => (go_simp; (try with_reducible rfl))); (try simp only [Act.put, List.setIfInBounds_toArray, List.set_cons_zero, List.set_cons_succ]))
          (refine TG.v0 (v := ?v110) (by simp only [List.getElem?_toArray, List.getElem?_cons_succ, List.getElem?_cons_zero]; rfl) rfl ?hw110 (fun w1 => ?hy110) ?hn110; (case hw110 => rfl); (case hy110 => (go_simp; (try with_reducible rfl))); (try simp only [Act.put, List.setIfInBounds_toArray, List.set_cons_zero, List.set_cons_succ]))
          (refine TG.v0 (v := ?v111) (by simp only [List.getElem?_toArray, List.getElem?_cons_succ, List.getElem?_cons_zero]; rfl) rfl ?hw111 (fun w1 => ?hy111) ?hn111; (case hw111 => rfl); (case hy111 => (go_simp; (try with_reducible rfl))); (try simp only [Act.put, List.setIfInBounds_toArray, List.set_cons_zero, List.set_cons_succ]))
          (refine TG.load (v := ?v112) (p := ?p112) (by simp only [List.getElem?_toArray, List.getElem?_cons_succ, List.getElem?_cons_zero]; rfl) rfl ?hw112 rfl ?hx112 (fun wq hSq => ?hy112) ?hn112; (case hw112 => rfl); (case hx112 => (simp only [Act.eval, Array.getD_eq_getD_getElem?, List.getElem?_toArray, List.getElem?_cons_succ, List.getElem?_cons_zero, Option.getD_some]; (try rfl))); (case hy112 => (have kp10q := hSq.at kp10 (by intro hT; first | exact hT | exact absurd hT (by assumption) | (simp only at hT; omega)); have kp3q := hSq.at kp3 (by intro hT; first | exact hT | exact absurd hT (by assumption) | (simp only at hT; omega)); go_simp; (try with_reducible rfl))); (try simp only [Act.put, List.setIfInBounds_toArray, List.set_cons_zero, List.set_cons_succ]))
          (refine TG.callN (f := ?f113) (args := ?r113) (fun v => v = .agg (av u)) gK (by simp only [List.getElem?_toArray, List.getElem?_cons_succ, List.getElem?_cons_zero]; rfl) rfl ?hw113 (fun w1 => ?hy113) (fun T wq kq ltq hSq ub => ?hsp113) ?hn113; (case hw113 => rfl); (case hy113 => (go_simp; (first | with_reducible rfl | (constructor <;> with_reducible rfl)))); (case hsp113 => (have kp10q := hSq.at kp10 (by intro hT; first | exact hT | exact absurd hT (by assumption) | (simp only at hT; omega)); have kp3q := hSq.at kp3 (by intro hT; first | exact hT | exact absurd hT (by assumption) | (simp only at hT; omega)); exact (get_c p b m ask wq (HPS.out.mod0 hSq).S).mono (fun e w' h => ⟨_, h.1, by rw [EU.out], h.2⟩))); rintro v113 hC; subst hC; (try simp only [Act.put, List.setIfInBounds_toArray, List.set_cons_zero, List.set_cons_succ]))
          (refine TG.v0 (v := ?v114) (by simp only [List.getElem?_toArray, List.getElem?_cons_succ, List.getElem?_cons_zero]; rfl) rfl ?hw114 (fun w1 => ?hy114) ?hn114; (case hw114 => rfl); (case hy114 => (go_simp; (try with_reducible rfl))); (try simp only [Act.put, List.setIfInBounds_toArray, List.set_cons_zero, List.set_cons_succ]))
          (refine TG.load (v := ?v115) (p := ?p115) (by simp only [List.getElem?_toArray, List.getElem?_cons_succ, List.getElem?_cons_zero]; rfl) rfl ?hw115 rfl ?hx115 (fun wq hSq => ?hy115) ?hn115; (case hw115 => rfl); (case hx115 => (simp only [Act.eval, Array.getD_eq_getD_getElem?, List.getElem?_toArray, List.getElem?_cons_succ, List.getElem?_cons_zero, Option.getD_some]; (try rfl))); (case hy115 => (have kp10q := hSq.at kp10 (by intro hT; first | exact hT | exact absurd hT (by assumption) | (simp only at hT; omega)); have kp3q := hSq.at kp3 (by intro hT; first | exact hT | exact absurd hT (by assumption) | (simp only at hT; omega)); go_simp; (try with_reducible rfl))); (try simp only [Act.put, List.setIfInBounds_toArray, List.set_cons_zero, List.set_cons_succ]))
          (refine TG.callN (f := ?f116) (args := ?r116) (fun v => v = .agg (av u)) gK (by simp only [List.getElem?_toArray, List.getElem?_cons_succ, List.getElem?_cons_zero]; rfl) rfl ?hw116 (fun w1 => ?hy116) (fun T wq kq ltq hSq ub => ?hsp116) ?hn116; (case hw116 => rfl); (case hy116 => (go_simp; (first | with_reducible rfl | (constructor <;> with_reducible rfl)))); (case hsp116 => (have kp10q := hSq.at kp10 (by intro hT; first | exact hT | exact absurd hT (by assumption) | (simp only at hT; omega)); have kp3q := hSq.at kp3 (by intro hT; first | exact hT | exact absurd hT (by assumption) | (simp only at hT; omega)); exact (rget_c p23 L ask wq (HPS.out.mod0 hSq).R (by have := HL2.out; omega)).mono (fun e w' h => ⟨_, h.1, by rw [HR1.out.get, EU.out], h.2⟩))); rintro v116 hC; subst hC; (try simp only [Act.put, List.setIfInBounds_toArray, List.set_cons_zero, List.set_cons_succ]))
          (refine TG.v0 (v := ?v117) (by simp only [List.getElem?_toArray, List.getElem?_cons_succ, List.getElem?_cons_zero]; rfl) rfl ?hw117 (fun w1 => ?hy117) ?hn117; (case hw117 => rfl); (case hy117 => (go_simp; (try with_reducible rfl))); (try simp only [Act.put, List.setIfInBounds_toArray, List.set_cons_zero, List.set_cons_succ]))
          (refine TG.v0 (v := ?v118) (by simp only [List.getElem?_toArray, List.getElem?_cons_succ, List.getElem?_cons_zero]; rfl) rfl ?hw118 (fun w1 => ?hy118) ?hn118; (case hw118 => rfl); (case hy118 => (go_simp; (try with_reducible rfl))); (try simp only [Act.put, List.setIfInBounds_toArray, List.set_cons_zero, List.set_cons_succ]))
          refine TG.nil (fun w9 ⟨TR, hr⟩ => ?_)
          have kp10 := hr.mod.at kp10 (by intro hT; first | exact hT | exact absurd hT (by assumption) | (simp only at hT; omega))
          have kp3 := hr.mod.at kp3 (by intro hT; first | exact hT | exact absurd hT (by assumption) | (simp only at hT; omega))
          clear gK
          have HPS2 := Lib.hid (HPS.out.mod0 hr.mod)
          have KF := Lib.hid kp3
          clear kp10 kp3 e1 e2
          go_wp2_with fail
          go_roundw
          case rel => exact ⟨i + 1, q, c2, d, m, L, n, M, by omega, by go_num, rfl, rfl, HPS2, HR1, HR2, HLN, KF.out⟩
          case measure => simp [intOf]; omega
      · obtain rfl : i = l.length := by omega
        have hLL : L.length ≤ 151 ∧ M.length ≤ 151 := by have h1 := HR1.out.len; have h2 := HR2.out.len; have h3 := HLN.out; omega
        have HLL := Lib.hid hLL
        have hml : m.length ≤ 151 ∧ n.length ≤ 151 := by have h3 := HLN.out; omega
        have HML := Lib.hid hml
        clear hLL hml kp3 hlt
        obtain ⟨wa, rfl⟩ : ∃ wa : World, wa = wr := ⟨_, rfl⟩
        go_wp2_with fail
        go_at_call 11
        refine (list_c p b m _ (sortOkS m (by have := HML.out; omega)) wa HPS.out.S (by have := HML.out; omega)).mono ?_
        rintro e w4 ⟨a4, l4, rfl, hp4, hS4, hs4, hf4, hn4, m4⟩
        obtain rfl : l4 = L := HR1.out.list hp4 hS4
        have W4 := Lib.hid (WAt.of hs4 hf4)
        have N4 : Hid (∀ i, InA a4 i → wa.heap.size ≤ i) := Lib.hid (fun i ⟨o, e⟩ => hn4 _ e)
        have F4 := Lib.hid (fz_lt hf4)
        have S4 := Lib.hid m4.size
        have MA := Lib.hid m4
        clear hp4 hS4 hs4 hf4 hn4 m4
        have hc1 := coins_c p b m w4 (HPS.out.mod0 MA.out).S (by have := HML.out; omega)
        generalize hh1 : sumC m / 18446744073709551616 = hi1 at hc1
        generalize hh2 : sumC m % 18446744073709551616 = lo1 at hc1
        have HH := Lib.hid (And.intro hh1 hh2)
        clear hh1 hh2
        go_wp2_with fail
        go_at_call 12
        refine hc1.mono ?_
        rintro e w5 ⟨rfl, m5⟩
        clear hc1
        have MA := Lib.hid (MA.out.then0 m5)
        have W4 := Lib.hid (W4.out.mod m5 (fun _ _ _ h => h))
        have S5 := Lib.hid m5.size
        clear m5
        have hc2 := rcoins_c p23 l4 w5 (HPS.out.mod0 MA.out).R (by have := HLL.out; omega)
        rw [HR1.out.coins, HH.out.1, HH.out.2] at hc2
        go_wp2_with fail
        go_at_call 21
        refine hc2.mono ?_
        rintro e w6 ⟨rfl, m6⟩
        clear hc2
        have MA := Lib.hid (MA.out.then0 m6)
        have W4 := Lib.hid (W4.out.mod m6 (fun _ _ _ h => h))
        have S6 := Lib.hid m6.size
        clear m6
        obtain ⟨ar, cr, kR, hsR⟩ := (HPS.out.mod0 MA.out).R.sl
        obtain ⟨ad, cd, kD, hsD⟩ := (HPS.out.mod0 MA.out).D.sl
        have HsR := Lib.hid hsR
        have HsD := Lib.hid hsD
        clear hsR hsD
        go_upto_region 29 with fail
        have LkR := lt_size kR
        have LkD := lt_size kD
        refine wp_gpass (T0 := fun _ => False) (K := fun _ _ => True) (κ := fun i => [0, 0, 0, 0, 0, 6, 0, 0, 0, 6, 0, 0, 0, 0, 6, 0, 0, 0, 0, 0, 0, 0, 0, 0, 0, 0, 0].getD i 0) (υ := fun i => [[], [], [], [], [], [], [], [], [], [], [], [], [], [], [], [], [], [], [], [], [], [], [], [], [], [], []].getD i []) [0, 1, 2, 3, 4, 5, 6, 7, 8, 9, 10, 11, 12, 13, 14, 15, 16, 17, 18, 19, 20, 21, 22, 23, 24, 25, 26] (by kernel_rfl) (by kernel_rfl) (Good.true).cl (trivial) (fun _ h => h.elim) ?_
        have gK := Good.true
        (refine TG.v0 (v := ?v119) (by simp only [List.getElem?_toArray, List.getElem?_cons_succ, List.getElem?_cons_zero]; rfl) rfl ?hw119 (fun w1 => ?hy119) ?hn119; (case hw119 => rfl); (case hy119 => (go_simp; (try with_reducible rfl))); (try simp only [Act.put, List.setIfInBounds_toArray, List.set_cons_zero, List.set_cons_succ]))
        (refine TG.v0 (v := ?v120) (by simp only [List.getElem?_toArray, List.getElem?_cons_succ, List.getElem?_cons_zero]; rfl) rfl ?hw120 (fun w1 => ?hy120) ?hn120; (case hw120 => rfl); (case hy120 => (go_simp; (try with_reducible rfl))); (try simp only [Act.put, List.setIfInBounds_toArray, List.set_cons_zero, List.set_cons_succ]))
        (refine TG.v0 (v := ?v121) (by simp only [List.getElem?_toArray, List.getElem?_cons_succ, List.getElem?_cons_zero]; rfl) rfl ?hw121 (fun w1 => ?hy121) ?hn121; (case hw121 => rfl); (case hy121 => (go_simp; (try with_reducible rfl))); (try simp only [Act.put, List.setIfInBounds_toArray, List.set_cons_zero, List.set_cons_succ]))
        (refine TG.v0 (v := ?v122) (by simp only [List.getElem?_toArray, List.getElem?_cons_succ, List.getElem?_cons_zero]; rfl) rfl ?hw122 (fun w1 => ?hy122) ?hn122; (case hw122 => rfl); (case hy122 => (go_simp; (try with_reducible rfl))); (try simp only [Act.put, List.setIfInBounds_toArray, List.set_cons_zero, List.set_cons_succ]))
        (refine TG.load (v := ?v123) (p := ?p123) (by simp only [List.getElem?_toArray, List.getElem?_cons_succ, List.getElem?_cons_zero]; rfl) rfl ?hw123 rfl ?hx123 (fun wq hSq => ?hy123) ?hn123; (case hw123 => rfl); (case hx123 => (simp only [Act.eval, Array.getD_eq_getD_getElem?, List.getElem?_toArray, List.getElem?_cons_succ, List.getElem?_cons_zero, Option.getD_some]; (try rfl))); (case hy123 => (have kRq := hSq.at kR (by intro hT; first | exact hT | exact absurd hT (by assumption) | (simp only at hT; omega)); have kDq := hSq.at kD (by intro hT; first | exact hT | exact absurd hT (by assumption) | (simp only at hT; omega)); go_simp; (try with_reducible rfl))); (try simp only [Act.put, List.setIfInBounds_toArray, List.set_cons_zero, List.set_cons_succ]))
        (refine TG.callN (f := ?f124) (args := ?r124) (fun v => v = .bool true) gK (by simp only [List.getElem?_toArray, List.getElem?_cons_succ, List.getElem?_cons_zero]; rfl) rfl ?hw124 (fun w1 => ?hy124) (fun T wq kq ltq hSq ub => ?hsp124) ?hn124; (case hw124 => rfl); (case hy124 => (go_simp; (first | with_reducible rfl | (constructor <;> with_reducible rfl)))); (case hsp124 => (have kRq := hSq.at kR (by intro hT; first | exact hT | exact absurd hT (by assumption) | (simp only at hT; omega)); have kDq := hSq.at kD (by intro hT; first | exact hT | exact absurd hT (by assumption) | (simp only at hT; omega)); exact (sameH_c a4 ar l4 l4 l4.length cr wq (W4.out.sl.mod0 hSq) (HsR.out.mod0 hSq) (by have := HLL.out; omega)).mono (fun e w' h => ⟨_, h.1, by simp, h.2⟩))); rintro v124 hC; subst hC; (try simp only [Act.put, List.setIfInBounds_toArray, List.set_cons_zero, List.set_cons_succ]))
        (refine TG.v0 (v := ?v125) (by simp only [List.getElem?_toArray, List.getElem?_cons_succ, List.getElem?_cons_zero]; rfl) rfl ?hw125 (fun w1 => ?hy125) ?hn125; (case hw125 => rfl); (case hy125 => (go_simp; (try with_reducible rfl))); (try simp only [Act.put, List.setIfInBounds_toArray, List.set_cons_zero, List.set_cons_succ]))
        (refine TG.v0 (v := ?v126) (by simp only [List.getElem?_toArray, List.getElem?_cons_succ, List.getElem?_cons_zero]; rfl) rfl ?hw126 (fun w1 => ?hy126) ?hn126; (case hw126 => rfl); (case hy126 => (go_simp; (try with_reducible rfl))); (try simp only [Act.put, List.setIfInBounds_toArray, List.set_cons_zero, List.set_cons_succ]))
        (refine TG.v0 (v := ?v127) (by simp only [List.getElem?_toArray, List.getElem?_cons_succ, List.getElem?_cons_zero]; rfl) rfl ?hw127 (fun w1 => ?hy127) ?hn127; (case hw127 => rfl); (case hy127 => (go_simp; (try with_reducible rfl))); (try simp only [Act.put, List.setIfInBounds_toArray, List.set_cons_zero, List.set_cons_succ]))
        (refine TG.callM (f := ?f128) (args := ?r128) (ListL M) (goodList M) gK (by simp only [List.getElem?_toArray, List.getElem?_cons_succ, List.getElem?_cons_zero]; rfl) rfl ?hw128 (fun w1 => ?hy128) (fun T wq kq ltq hSq ub => ?hsp128) ?hn128; (case hw128 => rfl); (case hy128 => (go_simp; (first | with_reducible rfl | (constructor <;> with_reducible rfl)))); (case hsp128 => (have kRq := hSq.at kR (by intro hT; first | exact hT | exact absurd hT (by assumption) | (simp only at hT; omega)); have kDq := hSq.at kD (by intro hT; first | exact hT | exact absurd hT (by assumption) | (simp only at hT; omega)); exact listL_c T wq ((HPS.out.mod0 MA.out).mod0 hSq).C HR2.out HLL.out.2)); rintro v128 ⟨wI, TI, hI⟩; replace gK := gK.and ((goodList M) v128); obtain ⟨aM, rfl, -⟩ := hI.k.2; (try clear hI TI wI); (try simp only [Act.put, List.setIfInBounds_toArray, List.set_cons_zero, List.set_cons_succ]))
        (refine TG.v0 (v := ?v129) (by simp only [List.getElem?_toArray, List.getElem?_cons_succ, List.getElem?_cons_zero]; rfl) rfl ?hw129 (fun w1 => ?hy129) ?hn129; (case hw129 => rfl); (case hy129 => (go_simp; (try with_reducible rfl))); (try simp only [Act.put, List.setIfInBounds_toArray, List.set_cons_zero, List.set_cons_succ]))
        (refine TG.v0 (v := ?v130) (by simp only [List.getElem?_toArray, List.getElem?_cons_succ, List.getElem?_cons_zero]; rfl) rfl ?hw130 (fun w1 => ?hy130) ?hn130; (case hw130 => rfl); (case hy130 => (go_simp; (try with_reducible rfl))); (try simp only [Act.put, List.setIfInBounds_toArray, List.set_cons_zero, List.set_cons_succ]))
        (refine TG.v0 (v := ?v131) (by simp only [List.getElem?_toArray, List.getElem?_cons_succ, List.getElem?_cons_zero]; rfl) rfl ?hw131 (fun w1 => ?hy131) ?hn131; (case hw131 => rfl); (case hy131 => (go_simp; (try with_reducible rfl))); (try simp only [Act.put, List.setIfInBounds_toArray, List.set_cons_zero, List.set_cons_succ]))
        (refine TG.load (v := ?v132) (p := ?p132) (by simp only [List.getElem?_toArray, List.getElem?_cons_succ, List.getElem?_cons_zero]; rfl) rfl ?hw132 rfl ?hx132 (fun wq hSq => ?hy132) ?hn132; (case hw132 => rfl); (case hx132 => (simp only [Act.eval, Array.getD_eq_getD_getElem?, List.getElem?_toArray, List.getElem?_cons_succ, List.getElem?_cons_zero, Option.getD_some]; (try rfl))); (case hy132 => (have kRq := hSq.at kR (by intro hT; first | exact hT | exact absurd hT (by assumption) | (simp only at hT; omega)); have kDq := hSq.at kD (by intro hT; first | exact hT | exact absurd hT (by assumption) | (simp only at hT; omega)); go_simp; (try with_reducible rfl))); (try simp only [Act.put, List.setIfInBounds_toArray, List.set_cons_zero, List.set_cons_succ]))
        (refine TG.callN (f := ?f133) (args := ?r133) (fun v => v = .bool true) gK (by simp only [List.getElem?_toArray, List.getElem?_cons_succ, List.getElem?_cons_zero]; rfl) rfl ?hw133 (fun w1 => ?hy133) (fun T wq kq ltq hSq ub => ?hsp133) ?hn133; (case hw133 => rfl); (case hy133 => (go_simp; (first | with_reducible rfl | (constructor <;> with_reducible rfl)))); (case hsp133 => (have kRq := hSq.at kR (by intro hT; first | exact hT | exact absurd hT (by assumption) | (simp only at hT; omega)); have kDq := hSq.at kD (by intro hT; first | exact hT | exact absurd hT (by assumption) | (simp only at hT; omega)); (obtain ⟨_, aM', hv, hsM, _⟩ := kq; exact (sameH_c _ ad M M _ cd wq (by cases hv; exact hsM) (HsD.out.mod0 hSq) (by have := HLL.out; omega)).mono (fun e w' h => ⟨_, h.1, by simp, h.2⟩)))); rintro v133 hC; subst hC; (try simp only [Act.put, List.setIfInBounds_toArray, List.set_cons_zero, List.set_cons_succ]))
        (refine TG.v0 (v := ?v134) (by simp only [List.getElem?_toArray, List.getElem?_cons_succ, List.getElem?_cons_zero]; rfl) rfl ?hw134 (fun w1 => ?hy134) ?hn134; (case hw134 => rfl); (case hy134 => (go_simp; (try with_reducible rfl))); (try simp only [Act.put, List.setIfInBounds_toArray, List.set_cons_zero, List.set_cons_succ]))
        (refine TG.v0 (v := ?v135) (by simp only [List.getElem?_toArray, List.getElem?_cons_succ, List.getElem?_cons_zero]; rfl) rfl ?hw135 (fun w1 => ?hy135) ?hn135; (case hw135 => rfl); (case hy135 => (go_simp; (try with_reducible rfl))); (try simp only [Act.put, List.setIfInBounds_toArray, List.set_cons_zero, List.set_cons_succ]))
        (refine TG.v0 (v := ?v136) (by simp only [List.getElem?_toArray, List.getElem?_cons_succ, List.getElem?_cons_zero]; rfl) rfl ?hw136 (fun w1 => ?hy136) ?hn136; (case hw136 => rfl); (case hy136 => (go_simp; (try with_reducible rfl))); (try simp only [Act.put, List.setIfInBounds_toArray, List.set_cons_zero, List.set_cons_succ]))
        (refine TG.v0 (v := ?v137) (by simp only [List.getElem?_toArray, List.getElem?_cons_succ, List.getElem?_cons_zero]; rfl) rfl ?hw137 (fun w1 => ?hy137) ?hn137; (case hw137 => rfl); (case hy137 => (go_simp; (try with_reducible rfl))); (try simp only [Act.put, List.setIfInBounds_toArray, List.set_cons_zero, List.set_cons_succ]))
        (refine TG.v0 (v := ?v138) (by simp only [List.getElem?_toArray, List.getElem?_cons_succ, List.getElem?_cons_zero]; rfl) rfl ?hw138 (fun w1 => ?hy138) ?hn138; (case hw138 => rfl); (case hy138 => (go_simp; (try with_reducible rfl))); (try simp only [Act.put, List.setIfInBounds_toArray, List.set_cons_zero, List.set_cons_succ]))
        (refine TG.v0 (v := ?v139) (by simp only [List.getElem?_toArray, List.getElem?_cons_succ, List.getElem?_cons_zero]; rfl) rfl ?hw139 (fun w1 => ?hy139) ?hn139; (case hw139 => rfl); (case hy139 => (go_simp; (try with_reducible rfl))); (try simp only [Act.put, List.setIfInBounds_toArray, List.set_cons_zero, List.set_cons_succ]))
        (refine TG.v0 (v := ?v140) (by simp only [List.getElem?_toArray, List.getElem?_cons_succ, List.getElem?_cons_zero]; rfl) rfl ?hw140 (fun w1 => ?hy140) ?hn140; (case hw140 => rfl); (case hy140 => (go_simp; (try with_reducible rfl))); (try simp only [Act.put, List.setIfInBounds_toArray, List.set_cons_zero, List.set_cons_succ]))
        (refine TG.v0 (v := ?v141) (by simp only [List.getElem?_toArray, List.getElem?_cons_succ, List.getElem?_cons_zero]; rfl) rfl ?hw141 (fun w1 => ?hy141) ?hn141; (case hw141 => rfl); (case hy141 => (go_simp; (try with_reducible rfl))); (try simp only [Act.put, List.setIfInBounds_toArray, List.set_cons_zero, List.set_cons_succ]))
        (refine TG.v0 (v := ?v142) (by simp only [List.getElem?_toArray, List.getElem?_cons_succ, List.getElem?_cons_zero]; rfl) rfl ?hw142 (fun w1 => ?hy142) ?hn142; (case hw142 => rfl); (case hy142 => (go_simp; (try with_reducible rfl))); (try simp only [Act.put, List.setIfInBounds_toArray, List.set_cons_zero, List.set_cons_succ]))
        (refine TG.v0 (v := ?v143) (by simp only [List.getElem?_toArray, List.getElem?_cons_succ, List.getElem?_cons_zero]; rfl) rfl ?hw143 (fun w1 => ?hy143) ?hn143; (case hw143 => rfl); (case hy143 => (go_simp; (try with_reducible rfl))); (try simp only [Act.put, List.setIfInBounds_toArray, List.set_cons_zero, List.set_cons_succ]))
        (refine TG.v0 (v := ?v144) (by simp only [List.getElem?_toArray, List.getElem?_cons_succ, List.getElem?_cons_zero]; rfl) rfl ?hw144 (fun w1 => ?hy144) ?hn144; (case hw144 => rfl); (case hy144 => (go_simp; (try with_reducible rfl))); (try simp only [Act.put, List.setIfInBounds_toArray, List.set_cons_zero, List.set_cons_succ]))
        (refine TG.v0 (v := ?v145) (by simp only [List.getElem?_toArray, List.getElem?_cons_succ, List.getElem?_cons_zero]; rfl) rfl ?hw145 (fun w1 => ?hy145) ?hn145; (case hw145 => rfl); (case hy145 => (go_simp; (try with_reducible rfl))); (try simp only [Act.put, List.setIfInBounds_toArray, List.set_cons_zero, List.set_cons_succ]))
        refine TG.nil (fun w7 ⟨TR, hr⟩ => ?_)
        have kR := hr.mod.at kR (by intro hT; first | exact hT | exact absurd hT (by assumption) | (simp only at hT; omega))
        have kD := hr.mod.at kD (by intro hT; first | exact hT | exact absurd hT (by assumption) | (simp only at hT; omega))
        clear gK
        have MA := Lib.hid (MA.out.then0 hr.mod)
        have W4 := Lib.hid (W4.out.mod hr.mod (fun _ _ _ h => h))
        have S7 : Hid (w4.heap.size ≤ w7.heap.size) := Lib.hid (by have h1 := S5.out; have h2 := S6.out; have h3 := hr.mod.size; omega)
        clear kR kD HsR HsD
        have hbk := bBook0
        go_upto_region 31 with fail
        refine wp_pass0 (C := fun _ _ _ => False) (κ := fun i => [0, 3, 4].getD i 0) [0, 1, 2] (by kernel_rfl) (by kernel_rfl) (fun _ _ d _ _ h => by cases d <;> exact h) ?_
        (refine TD.build (v := ?v146) (ps := ?p146) (by simp only [List.getElem?_toArray, List.getElem?_cons_succ, List.getElem?_cons_zero]; rfl) rfl ?hw146 rfl ?hx146 (fun w1 => ?hy146) ?hn146; (case hw146 => rfl); (case hx146 => (simp only [List.map_toArray, List.map_cons, List.map_nil, Act.eval, Array.getD_eq_getD_getElem?, List.getElem?_toArray, List.getElem?_cons_succ, List.getElem?_cons_zero, Option.getD_some]; (try rfl))); (case hy146 => (rw [hbk]; (try with_reducible rfl))); (try simp only [Act.put, List.setIfInBounds_toArray, List.set_cons_zero, List.set_cons_succ]))
        (refine TD.allocB (by simp only [List.getElem?_toArray, List.getElem?_cons_succ, List.getElem?_cons_zero]; rfl) rfl ?hw147 rfl rfl alBk (fun p16 hp16 => ?hn147); (case hw147 => rfl); (try simp only [Act.put, List.setIfInBounds_toArray, List.set_cons_zero, List.set_cons_succ]))
        (refine TD.storeB (d := ?d148) (T := ?T148) (y := ?y148) (p := ?p148) (b := ?b148) (v := ?v148) (by simp only [List.getElem?_toArray, List.getElem?_cons_succ, List.getElem?_cons_zero]; rfl) rfl ?hw148 ?hd148 ?hop148 ?hev148 ?hx148 ?hb148 ?htag148 (fun w1 hb1 => ?hy148) ?hn148; (case hw148 => rfl); (case hd148 => rfl); (case hop148 => rfl); (case hev148 => (simp only [Act.eval, Array.getD_eq_getD_getElem?, List.getElem?_toArray, List.getElem?_cons_succ, List.getElem?_cons_zero, Option.getD_some]; (try rfl))); (case hx148 => (simp only [Act.eval, Array.getD_eq_getD_getElem?, List.getElem?_toArray, List.getElem?_cons_succ, List.getElem?_cons_zero, Option.getD_some]; (try rfl))); (case hb148 => first | exact Bx.set_same _ _ _ | (simp only [Bx.set_same]; rfl)); (case hy148 => (go_simp; (try with_reducible rfl))); (try simp only [Act.put, List.setIfInBounds_toArray, List.set_cons_zero, List.set_cons_succ]))
        refine TD.nil (fun w8 hr => ?_)
        have kp16 := hr.box p16 _ (by first | exact Bx.set_same _ _ _ | (simp only [Bx.set_same]; rfl)); dsimp only [Value.cells] at kp16; obtain ⟨gp16, kp16⟩ := kp16
        have MA := Lib.hid (MA.out.then0 hr.mod)
        have W4 := Lib.hid (W4.out.mod hr.mod (fun _ _ _ h => h))
        have S8 := Lib.hid (And.intro gp16 (lt_size kp16))
        have hB8 : BAt w8 p16 w8.heap.size (InA a4) [] := ⟨_, kp16, SlOwn.nil _ _, fun k hk => by cases hk⟩
        have HB8 := Lib.hid hB8
        clear hB8 kp16 gp16 hbk
        go_wp2_with fail
        go_at_call 23
        refine (hold1_c p16 w8.heap.size (InA a4) [] rfl a4 l4.length w8 HB8.out (Nat.le_refl _) S8.out.2 (fun i hi => by have h1 := F4.out i hi; have h2 := S7.out; have h3 := S8.out; omega)).mono ?_
        rintro e w9 ⟨rfl, hB9, m9⟩
        have MA := Lib.hid (MA.out.then m9 (fun i hi e => by
          have h3 := S8.out
          have h2 := S7.out
          have h4 := S4.out
          rcases e with e | e
          · omega
          · have := e.1; omega))
        have W4 := Lib.hid (W4.out.mod m9 (fun b o e h => by
          have h1 := F4.out b ⟨o, e⟩
          have h2 := S7.out
          have h3 := S8.out
          rcases h with h | h
          · omega
          · have := h.1; omega))
        have HB9 := Lib.hid hB9
        have S9 := Lib.hid m9.size
        clear hB9 m9
        go_wp2_with fail
        go_at_call 11
        refine (list_c p b m _ (sortOkS m (by have := HML.out; omega)) w9 (HPS.out.mod0 MA.out).S (by have := HML.out; omega)).mono ?_
        rintro e w10 ⟨a5, l5, rfl, hp5, hS5, hs5, hf5, hn5, m10⟩
        obtain rfl : l5 = l4 := HR1.out.list hp5 hS5
        have W5 := Lib.hid (WAt.of hs5 hf5)
        have N5 : Hid (∀ i, InA a5 i → w9.heap.size ≤ i) := Lib.hid (fun i ⟨o, e⟩ => hn5 _ e)
        have F5 := Lib.hid (fz_lt hf5)
        have MA := Lib.hid (MA.out.then0 m10)
        have W4 := Lib.hid (W4.out.mod m10 (fun _ _ _ h => h))
        have S10 := Lib.hid m10.size
        have HB10 : Hid (BAt w10 p16 w8.heap.size (fun i => InA a4 i ∨ InA a5 i) [(⟨a4, l5.length, hk (bkey 1 1), hk (bkey 1 2)⟩ : Pg)]) := Lib.hid ((HB9.out.more (fun i hi => by
          rcases hi with hi | hi
          · exact .inl hi
          · exact .inr (N5.out i hi))).mod0 m10)
        clear hp5 hS5 hs5 hf5 hn5 m10
        go_wp2_with fail
        go_at_call 23
        refine (hold2_c p16 w8.heap.size (fun i => InA a4 i ∨ InA a5 i) _ rfl a5 l5.length w10 HB10.out (by have h1 := S9.out; have h2 := S10.out; omega) S8.out.2 (fun i hi => by
          have h2 := S7.out
          have h3 := S8.out
          have h5 := S9.out
          have h6 := S10.out
          rcases hi with hi | hi
          · have h1 := F4.out i hi; omega
          · exact F5.out i hi)).mono ?_
        rintro e w11 ⟨rfl, hB11, m11⟩
        have MA := Lib.hid (MA.out.then m11 (fun i hi e => by
          have h3 := S8.out
          have h2 := S7.out
          have h4 := S4.out
          rcases e with e | e
          · omega
          · have := e.1; omega))
        have W4 := Lib.hid (W4.out.mod m11 (fun b o e h => by
          have h1 := F4.out b ⟨o, e⟩
          have h2 := S7.out
          have h3 := S8.out
          rcases h with h | h
          · omega
          · have := h.1; omega))
        have W5 := Lib.hid (W5.out.mod m11 (fun b o e h => by
          have h1 := N5.out b ⟨o, e⟩
          have h3 := S8.out
          have h4 := S9.out
          rcases h with h | h
          · omega
          · exact h.2 (.inr ⟨o, e⟩)))
        have HB11 := Lib.hid hB11
        have S11 := Lib.hid m11.size
        clear hB11 m11
        have hnT : ∀ i, (InA a4 i ∨ InA a5 i) → wa.heap.size ≤ i := fun i hi => by
          have h2 := S7.out
          have h3 := S8.out
          have h4 := S4.out
          have h5 := S9.out
          rcases hi with hi | hi
          · exact N4.out i hi
          · have := N5.out i hi; omega
        have HNT := Lib.hid hnT
        have hpq : ∀ i, InA a4 i → ¬ InA a5 i := fun i h1 h2 => by
          have e1 := F4.out i h1
          have e2 := N5.out i h2
          have h2 := S7.out
          have h3 := S8.out
          have h5 := S9.out
          omega
        have HPQ := Lib.hid hpq
        have hne : ∀ i, (InA a4 i ∨ InA a5 i) → i ≠ p16 := fun i hi => by
          have h2 := S7.out
          have h3 := S8.out
          have h5 := S9.out
          rcases hi with hi | hi
          · have := F4.out i hi; omega
          · have := N5.out i hi; omega
        have HNE := Lib.hid hne
        have hlt11 : ∀ i, (InA a4 i ∨ InA a5 i) → i < w11.heap.size := fun i hi => by
          have h2 := S7.out
          have h3 := S8.out
          have h5 := S9.out
          have h6 := S10.out
          have h7 := S11.out
          rcases hi with hi | hi
          · have := F4.out i hi; omega
          · have := F5.out i hi; omega
        have HLT := Lib.hid hlt11
        clear hnT hpq hne hlt11
        obtain ⟨ar, cr, kR0, hsR⟩ := HPS.out.R.sl
        have HsR := Lib.hid hsR
        have kR := MA.out.at0 kR0
        have hnR : ¬ (InA a4 p23 ∨ InA a5 p23) := fun e => by
          have h1 := HNT.out p23 e
          have h2 := lt_size kR0
          omega
        have toA : ∀ wq, Mod (fun i => InA a4 i ∨ InA a5 i) w11 wq → Mod (fun _ => False) wa wq := fun wq hq => MA.out.then hq (fun i hi e => by have := HNT.out i e; omega)
        have TOA := Lib.hid toA
        clear hsR kR0 toA
        simp only [Result.andThen] at *
        go_upto_region 34 with fail
        have LkR := lt_size kR
        refine wp_gpass (T0 := fun i => InA a4 i ∨ InA a5 i) (K := KT a4 a5 l5) (κ := fun i => [6, 0, 0, 6, 0, 0, 0, 0, 6, 0, 0, 6, 0, 0].getD i 0) (υ := fun i => [[], [], [], [], [], [], [], [], [], [], [], [], [], []].getD i []) [0, 1, 2, 3, 4, 5, 6, 7, 8, 9, 10, 11, 12, 13] (by kernel_rfl) (by kernel_rfl) (goodKT a4 a5 l5).cl (⟨fun i h => h, W4.out, W5.out⟩) (HLT.out) ?_
        have gK := goodKT a4 a5 l5
        (refine TG.callK (f := ?f149) (args := ?r149) (fun v _ _ => v = .bool true) (fun v => Good.pure (v = .bool true)) (by simp only [List.getElem?_toArray, List.getElem?_cons_succ, List.getElem?_cons_zero]; rfl) rfl ?hw149 (fun w1 => ?hy149) (fun T wq kq ltq hSq ub => ?hsp149) ?hn149; (case hw149 => rfl); (case hy149 => (go_simp; (first | with_reducible rfl | (constructor <;> with_reducible rfl)))); (case hsp149 => (have kRq := hSq.at kR (by intro hT; first | exact hT | exact absurd hT (by assumption) | (simp only at hT; omega)); exact (apart_c p16 w8.heap.size ⟨a4, l5.length, hk (bkey 1 1), hk (bkey 1 2)⟩ ⟨a5, l5.length, hk (bkey 2 1), hk (bkey 2 2)⟩ l5 l5 wq (HB11.out.mod hSq (fun e => HNE.out p16 e rfl) (fun _ h => h)) rfl rfl (by have := HLL.out; dsimp only; omega) (by have := HLL.out; dsimp only; omega) kq.2.1 kq.2.2 HPQ.out (sl_whole2 (wat_nil kq.2.1)) (sl_whole2 (wat_nil kq.2.2)) HNE.out).mono (fun e w' h => ⟨_, h.1, h.2.mono (fun i _ hi => kq.1 i hi), rfl⟩))); rintro v149 ⟨wI, TI, hI⟩; replace gK := (fun v => Good.pure (v = .bool true)) v149; obtain rfl := hI.k; refine TG.mono (K2 := fun _ _ => True) ?_ (fun _ _ _ => trivial); replace gK := Good.true; (try clear hI TI wI); (try simp only [Act.put, List.setIfInBounds_toArray, List.set_cons_zero, List.set_cons_succ]))
        (refine TG.v0 (v := ?v150) (by simp only [List.getElem?_toArray, List.getElem?_cons_succ, List.getElem?_cons_zero]; rfl) rfl ?hw150 (fun w1 => ?hy150) ?hn150; (case hw150 => rfl); (case hy150 => (go_simp; (try with_reducible rfl))); (try simp only [Act.put, List.setIfInBounds_toArray, List.set_cons_zero, List.set_cons_succ]))
        (refine TG.v0 (v := ?v151) (by simp only [List.getElem?_toArray, List.getElem?_cons_succ, List.getElem?_cons_zero]; rfl) rfl ?hw151 (fun w1 => ?hy151) ?hn151; (case hw151 => rfl); (case hy151 => (go_simp; (try with_reducible rfl))); (try simp only [Act.put, List.setIfInBounds_toArray, List.set_cons_zero, List.set_cons_succ]))
        (refine TG.callM (f := ?f152) (args := ?r152) (ListL l5) (goodList l5) gK (by simp only [List.getElem?_toArray, List.getElem?_cons_succ, List.getElem?_cons_zero]; rfl) rfl ?hw152 (fun w1 => ?hy152) (fun T wq kq ltq hSq ub => ?hsp152) ?hn152; (case hw152 => rfl); (case hy152 => (go_simp; (first | with_reducible rfl | (constructor <;> with_reducible rfl)))); (case hsp152 => (have kRq := hSq.at kR (by intro hT; first | exact hT | exact absurd hT (by assumption) | (simp only at hT; omega)); exact listL_c T wq (HPS.out.mod0 (TOA.out wq hSq)).S HR1 HLL.out.1)); rintro v152 ⟨wI, TI, hI⟩; replace gK := gK.and ((goodList l5) v152); obtain ⟨aM, rfl, -⟩ := hI.k.2; (try clear hI TI wI); (try simp only [Act.put, List.setIfInBounds_toArray, List.set_cons_zero, List.set_cons_succ]))
        (refine TG.v0 (v := ?v153) (by simp only [List.getElem?_toArray, List.getElem?_cons_succ, List.getElem?_cons_zero]; rfl) rfl ?hw153 (fun w1 => ?hy153) ?hn153; (case hw153 => rfl); (case hy153 => (go_simp; (try with_reducible rfl))); (try simp only [Act.put, List.setIfInBounds_toArray, List.set_cons_zero, List.set_cons_succ]))
        (refine TG.v0 (v := ?v154) (by simp only [List.getElem?_toArray, List.getElem?_cons_succ, List.getElem?_cons_zero]; rfl) rfl ?hw154 (fun w1 => ?hy154) ?hn154; (case hw154 => rfl); (case hy154 => (go_simp; (try with_reducible rfl))); (try simp only [Act.put, List.setIfInBounds_toArray, List.set_cons_zero, List.set_cons_succ]))
        (refine TG.v0 (v := ?v155) (by simp only [List.getElem?_toArray, List.getElem?_cons_succ, List.getElem?_cons_zero]; rfl) rfl ?hw155 (fun w1 => ?hy155) ?hn155; (case hw155 => rfl); (case hy155 => (go_simp; (try with_reducible rfl))); (try simp only [Act.put, List.setIfInBounds_toArray, List.set_cons_zero, List.set_cons_succ]))
        (refine TG.load (v := ?v156) (p := ?p156) (by simp only [List.getElem?_toArray, List.getElem?_cons_succ, List.getElem?_cons_zero]; rfl) rfl ?hw156 rfl ?hx156 (fun wq hSq => ?hy156) ?hn156; (case hw156 => rfl); (case hx156 => (simp only [Act.eval, Array.getD_eq_getD_getElem?, List.getElem?_toArray, List.getElem?_cons_succ, List.getElem?_cons_zero, Option.getD_some]; (try rfl))); (case hy156 => (have kRq := hSq.at kR (by intro hT; first | exact hT | exact absurd hT (by assumption) | (simp only at hT; omega)); go_simp; (try with_reducible rfl))); (try simp only [Act.put, List.setIfInBounds_toArray, List.set_cons_zero, List.set_cons_succ]))
        (refine TG.callN (f := ?f157) (args := ?r157) (fun v => v = .bool true) gK (by simp only [List.getElem?_toArray, List.getElem?_cons_succ, List.getElem?_cons_zero]; rfl) rfl ?hw157 (fun w1 => ?hy157) (fun T wq kq ltq hSq ub => ?hsp157) ?hn157; (case hw157 => rfl); (case hy157 => (go_simp; (first | with_reducible rfl | (constructor <;> with_reducible rfl)))); (case hsp157 => (have kRq := hSq.at kR (by intro hT; first | exact hT | exact absurd hT (by assumption) | (simp only at hT; omega)); (obtain ⟨_, aM', hv, hsM, _⟩ := kq; exact (sameH_c _ ar l5 l5 _ cr wq (by cases hv; exact hsM) (HsR.out.mod0 (TOA.out wq hSq)) (by have := HLL.out; omega)).mono (fun e w' h => ⟨_, h.1, by simp, h.2⟩)))); rintro v157 hC; subst hC; (try simp only [Act.put, List.setIfInBounds_toArray, List.set_cons_zero, List.set_cons_succ]))
        (refine TG.v0 (v := ?v158) (by simp only [List.getElem?_toArray, List.getElem?_cons_succ, List.getElem?_cons_zero]; rfl) rfl ?hw158 (fun w1 => ?hy158) ?hn158; (case hw158 => rfl); (case hy158 => (go_simp; (try with_reducible rfl))); (try simp only [Act.put, List.setIfInBounds_toArray, List.set_cons_zero, List.set_cons_succ]))
        (refine TG.v0 (v := ?v159) (by simp only [List.getElem?_toArray, List.getElem?_cons_succ, List.getElem?_cons_zero]; rfl) rfl ?hw159 (fun w1 => ?hy159) ?hn159; (case hw159 => rfl); (case hy159 => (go_simp; (try with_reducible rfl))); (try simp only [Act.put, List.setIfInBounds_toArray, List.set_cons_zero, List.set_cons_succ]))
        (refine TG.callN (f := ?f160) (args := ?r160) (fun v => v = .bool true) gK (by simp only [List.getElem?_toArray, List.getElem?_cons_succ, List.getElem?_cons_zero]; rfl) rfl ?hw160 (fun w1 => ?hy160) (fun T wq kq ltq hSq ub => ?hsp160) ?hn160; (case hw160 => rfl); (case hy160 => (go_simp; (first | with_reducible rfl | (constructor <;> with_reducible rfl)))); (case hsp160 => (have kRq := hSq.at kR (by intro hT; first | exact hT | exact absurd hT (by assumption) | (simp only at hT; omega)); exact (lives_c wq).mono (fun e w' h => ⟨_, h.1, rfl, h.2⟩))); rintro v160 hC; subst hC; (try simp only [Act.put, List.setIfInBounds_toArray, List.set_cons_zero, List.set_cons_succ]))
        (refine TG.v0 (v := ?v161) (by simp only [List.getElem?_toArray, List.getElem?_cons_succ, List.getElem?_cons_zero]; rfl) rfl ?hw161 (fun w1 => ?hy161) ?hn161; (case hw161 => rfl); (case hy161 => (go_simp; (try with_reducible rfl))); (try simp only [Act.put, List.setIfInBounds_toArray, List.set_cons_zero, List.set_cons_succ]))
        (refine TG.v0 (v := ?v162) (by simp only [List.getElem?_toArray, List.getElem?_cons_succ, List.getElem?_cons_zero]; rfl) rfl ?hw162 (fun w1 => ?hy162) ?hn162; (case hw162 => rfl); (case hy162 => (go_simp; (try with_reducible rfl))); (try simp only [Act.put, List.setIfInBounds_toArray, List.set_cons_zero, List.set_cons_succ]))
        refine TG.nil (fun w12 ⟨TR, hr⟩ => ?_)
        have kR := hr.mod.at kR (by intro hT; first | exact hT | exact absurd hT (by assumption) | (simp only at hT; omega))
        clear gK
        have mF := HPS.out.mod.then0 (TOA.out w12 hr.mod)
        go_wp2_with fail
        go_ret
        exact ⟨rfl, mF⟩
end Go.Proofs.Ytknmiojegnbakaa
