/- The walks of the reference's Take and Release. -/
import Derived.Test.YtleenmldlbccmaaRef
namespace Go.Proofs.Ytleenmldlbccmaa
open Go.RowKit
open Go.ChangeMaps (setBlock)
set_option linter.unusedSimpArgs false
set_option linter.unusedVariables false
attribute [local go_sem ↓] wlLock ldLock stLock wlKey wlRole wlSpot wlCounts wlBits ldKey ldRole ldSpot ldCounts ldBits stKey stRole stSpot stCounts stBits eqCounts eqBits eqKey1 eqLock
attribute [local go_sem] lkn_size lkn_key lkn_all lkn_b lkn_n lkn_b' lkn_n' lkn_one zLock_size eqBlk zKey_size zRole_size eqHeld cell_blk frozen_blk kc_ext rc_size rc_key rc_all rc_s rc_w rc_s' rc_w' rc_one sc_size sc_key sc_all sc_n sc_n' sc_one one_int one_bool one_ptr one_slice one_map zSpot_size kc_one kc_one0 Value.cells
/-- What a call of Take or Release may turn. -/
def RMod (tb : Nat) (v : Value) (w w' : World) : Prop := Mod (fun j => j = tb ∨ v.ownBlock = some j) w w'
def OwnNew (v v' : Value) (w : World) : Prop := ∀ k, v'.ownBlock = some k → v.ownBlock = some k ∨ w.heap.size ≤ k
def RTakePost (w : World) (tb n base : Nat) (v : Value) (L : List Lk) (e : Ending) (w' : World) : Prop :=
  e = .returned (.int .i64 0) ∧ (∃ v', RTab w' tb n base v' L ∧ OwnNew v v' w) ∧ RMod tb v w w'
theorem bsLock' (k : Key) (b : Bool) (i : Fin 64) (w : World) : (Instr.buildSlice 38 1 #[(0, .agg (lkn k b (i.val : Int)))]).run Try.prog w = .ok (.slice (some ⟨w.heap.size, 0, none⟩) 1 1) (w.alloc (.cells (lkn k b (i.val : Int)) 78)) := bsLock (k, b, i) w
set_option maxRecDepth 20000 in
set_option maxHeartbeats 6400000 in
theorem rtake_c (tb n base : Nat) (v : Value) (L : List Lk) (a : Option Addr) (l : List Role) (c : Nat) (i : Fin 64) (w : World) (h : RTab w tb n base v L) (hi : i.val < n) (hlen : L.length + l.length ≤ 1000000) (hl : RolesAt w a l)
    (hsep : ∀ b o, a = some ⟨b, o, none⟩ → (b ≠ tb ∧ v.ownBlock ≠ some b ∧ b < w.heap.size) ∨ l = []) (hbase : base ≤ w.heap.size) :
    Calls Try.prog 18 #[.pointer (some ⟨tb, 0, none⟩), .slice a l.length c, .int .i64 (i.val : Int)] w fun e w' => if freeB L l i.val then RTakePost w tb n base v (L ++ locksOf l i) e w' else e = .returned (.int .i64 23) ∧ Mod (fun _ => False) w w' := by
  have kt := h.cells
  have h1 : ¬ ((i.val : Int) < 0) := by omega
  have h2 : ¬ ((n : Int) ≤ (i.val : Int)) := by omega
  have hall := rall_c tb n base v L a l c i.val w h (by omega) hl (by omega)
  have HALL := Lib.hid hall
  have H := Lib.hid h
  have HS := Lib.hid hsep
  clear hall h hsep
  cases hfr : freeB L l i.val with
  | false =>
    simp only [Bool.false_eq_true, if_false]
    have HF := Lib.hid hfr
    clear hfr
    go_enter Try.func18, Try.ntmps18
    go_wp2_with fail
    go_at_call 26
    refine HALL.out.mono ?_
    rintro e w2 ⟨rfl, m2⟩
    rw [HF.out]
    go_wp2_with fail
    go_ret
    exact ⟨rfl, m2⟩
  | true =>
    simp only [if_true]
    have HF := Lib.hid hfr
    clear hfr
    go_enter Try.func18, Try.ntmps18
    go_wp2_with fail
    go_at_call 26
    refine HALL.out.mono ?_
    clear HALL
    rintro e w2 ⟨rfl, m2⟩
    rw [HF.out]
    have hs2 := m2.size
    go_wp2_with fail
    go_loopw [7] (fun s7 wr => ∃ (j : Nat) (v' : Value), j ≤ l.length ∧ s7 = .int .i64 j ∧ RTab wr tb n base v' (L ++ locksOf (l.take j) i) ∧ Hid (OwnNew v v' w) ∧ w.heap.size ≤ wr.heap.size ∧ RMod tb v w wr) (fun s7 _ => l.length - (intOf s7).toNat)
    case atStart => exact ⟨0, v, by omega, rfl, by simpa [locksOf] using H.out.mod0 m2, Lib.hid (fun k hk => .inl hk), hs2, m2.mono (fun _ _ h => h.elim)⟩
    case round =>
      clear kt m2 hs2
      obtain ⟨j, v', hj, rfl, hR, HN, hsz, hm⟩ := hrel
      by_cases hlt : j < l.length
      · obtain ⟨x, hx⟩ : ∃ r, l[j]? = some r := ⟨_, List.getElem?_eq_getElem hlt⟩
        have htk : locksOf (l.take (j + 1)) i = locksOf (l.take j) i ++ [(x.k, x.w, i)] := by
          rw [List.take_add_one, hx]
          simp [locksOf]
        have HTK := Lib.hid htk
        clear htk
        obtain ⟨g, o, C, U, fr, rfl, kl, hex, hle⟩ := (RolesAt.sl.1 (hl.mod hm (fun b o e => by
          obtain ⟨h1, h2, _⟩ := (HS.out b o e).resolve_right (fun e => by rw [e] at hlt; simp at hlt)
          rintro (h | h)
          · exact h1 h
          · exact h2 h))).block hx
        obtain ⟨hg1, hg2, hg3⟩ := (HS.out g o rfl).resolve_right (fun e => by rw [e] at hlt; simp at hlt)
        obtain ⟨a', c', rfl, hL, hL1, _⟩ := hR.own.at lockT
        have kt := hR.cells
        have hlt' := hR.lt
        have e1 := ext_key hex
        have e2 := ext_w hex
        have d1 : o + j * 34 + 32 ≤ C.size := by omega
        obtain ⟨k, s, b⟩ := x
        dsimp only at e1 e2
        have HR := Lib.hid hR
        have hLlen : (L ++ locksOf (l.take j) i).length ≤ 999999 := by
          rw [List.length_append, locksOf_len, List.length_take]
          omega
        clear hex hle hx hL hL1 hR hl
        generalize hg : L ++ locksOf (l.take j) i = X at *
        have HG := Lib.hid hg
        clear hg
        have hbl := buildLock k b (i.val : Int)
        have hbs := bsLock' k b i
        go_upto_region 8 with fail
        have Lkt := lt_size kt
        have Lkl := lt_size kl
        refine wp_pass (C := fun _ _ _ => False) (κ := fun i => [0, 0, 0, 0, 1, 0, 0, 0, 0, 1, 0, 0, 0, 0, 1, 0, 0, 3, 5, 0, 0, 6].getD i 0) [0, 1, 2, 3, 4, 5, 6, 7, 8, 9, 10, 11, 12, 13, 14, 15, 16, 17, 18, 19, 20, 21] (by kernel_rfl) (by kernel_rfl) (fun _ _ d _ _ h => by cases d <;> exact h) ?_
        (refine TD.val0 (v := ?v1) (by simp only [List.getElem?_toArray, List.getElem?_cons_succ, List.getElem?_cons_zero]; rfl) rfl ?hw1 (fun w1 => ?hy1) ?hn1; (case hw1 => rfl); (case hy1 => (go_simp; (try with_reducible rfl))); (try simp only [Act.put, List.setIfInBounds_toArray, List.set_cons_zero, List.set_cons_succ]))
        (refine TD.val0 (v := ?v2) (by simp only [List.getElem?_toArray, List.getElem?_cons_succ, List.getElem?_cons_zero]; rfl) rfl ?hw2 (fun w1 => ?hy2) ?hn2; (case hw2 => rfl); (case hy2 => (go_simp; (try with_reducible rfl))); (try simp only [Act.put, List.setIfInBounds_toArray, List.set_cons_zero, List.set_cons_succ]))
        (refine TD.val0 (v := ?v3) (by simp only [List.getElem?_toArray, List.getElem?_cons_succ, List.getElem?_cons_zero]; rfl) rfl ?hw3 (fun w1 => ?hy3) ?hn3; (case hw3 => rfl); (case hy3 => (go_simp; (try with_reducible rfl))); (try simp only [Act.put, List.setIfInBounds_toArray, List.set_cons_zero, List.set_cons_succ]))
        (refine TD.val0 (v := ?v4) (by simp only [List.getElem?_toArray, List.getElem?_cons_succ, List.getElem?_cons_zero]; rfl) rfl ?hw4 (fun w1 => ?hy4) ?hn4; (case hw4 => rfl); (case hy4 => (go_simp; (try with_reducible rfl))); (try simp only [Act.put, List.setIfInBounds_toArray, List.set_cons_zero, List.set_cons_succ]))
        (refine TD.load (v := ?v5) (p := ?p5) (Mod.refl _ _) (by simp only [List.getElem?_toArray, List.getElem?_cons_succ, List.getElem?_cons_zero]; rfl) rfl ?hw5 rfl ?hx5 (fun wq hSq => ?hy5) ?hn5; (case hw5 => rfl); (case hx5 => (simp only [Act.eval, Array.getD_eq_getD_getElem?, List.getElem?_toArray, List.getElem?_cons_succ, List.getElem?_cons_zero, Option.getD_some]; (try rfl))); (case hy5 => (have ktq := hSq.at kt (fun h => h); have klq := hSq.at kl (fun h => h); go_simp; (try with_reducible rfl))); (try simp only [Act.put, List.setIfInBounds_toArray, List.set_cons_zero, List.set_cons_succ]))
        (refine TD.val0 (v := ?v6) (by simp only [List.getElem?_toArray, List.getElem?_cons_succ, List.getElem?_cons_zero]; rfl) rfl ?hw6 (fun w1 => ?hy6) ?hn6; (case hw6 => rfl); (case hy6 => (go_simp; (try with_reducible rfl))); (try simp only [Act.put, List.setIfInBounds_toArray, List.set_cons_zero, List.set_cons_succ]))
        (refine TD.val0 (v := ?v7) (by simp only [List.getElem?_toArray, List.getElem?_cons_succ, List.getElem?_cons_zero]; rfl) rfl ?hw7 (fun w1 => ?hy7) ?hn7; (case hw7 => rfl); (case hy7 => (go_simp; (try with_reducible rfl))); (try simp only [Act.put, List.setIfInBounds_toArray, List.set_cons_zero, List.set_cons_succ]))
        (refine TD.val0 (v := ?v8) (by simp only [List.getElem?_toArray, List.getElem?_cons_succ, List.getElem?_cons_zero]; rfl) rfl ?hw8 (fun w1 => ?hy8) ?hn8; (case hw8 => rfl); (case hy8 => (go_simp; (try with_reducible rfl))); (try simp only [Act.put, List.setIfInBounds_toArray, List.set_cons_zero, List.set_cons_succ]))
        (refine TD.val0 (v := ?v9) (by simp only [List.getElem?_toArray, List.getElem?_cons_succ, List.getElem?_cons_zero]; rfl) rfl ?hw9 (fun w1 => ?hy9) ?hn9; (case hw9 => rfl); (case hy9 => (go_simp; (try with_reducible rfl))); (try simp only [Act.put, List.setIfInBounds_toArray, List.set_cons_zero, List.set_cons_succ]))
        (refine TD.load (v := ?v10) (p := ?p10) (Mod.refl _ _) (by simp only [List.getElem?_toArray, List.getElem?_cons_succ, List.getElem?_cons_zero]; rfl) rfl ?hw10 rfl ?hx10 (fun wq hSq => ?hy10) ?hn10; (case hw10 => rfl); (case hx10 => (simp only [Act.eval, Array.getD_eq_getD_getElem?, List.getElem?_toArray, List.getElem?_cons_succ, List.getElem?_cons_zero, Option.getD_some]; (try rfl))); (case hy10 => (have ktq := hSq.at kt (fun h => h); have klq := hSq.at kl (fun h => h); go_simp; (try with_reducible rfl))); (try simp only [Act.put, List.setIfInBounds_toArray, List.set_cons_zero, List.set_cons_succ]))
        (refine TD.val0 (v := ?v11) (by simp only [List.getElem?_toArray, List.getElem?_cons_succ, List.getElem?_cons_zero]; rfl) rfl ?hw11 (fun w1 => ?hy11) ?hn11; (case hw11 => rfl); (case hy11 => (go_simp; (try with_reducible rfl))); (try simp only [Act.put, List.setIfInBounds_toArray, List.set_cons_zero, List.set_cons_succ]))
        (refine TD.val0 (v := ?v12) (by simp only [List.getElem?_toArray, List.getElem?_cons_succ, List.getElem?_cons_zero]; rfl) rfl ?hw12 (fun w1 => ?hy12) ?hn12; (case hw12 => rfl); (case hy12 => (go_simp; (try with_reducible rfl))); (try simp only [Act.put, List.setIfInBounds_toArray, List.set_cons_zero, List.set_cons_succ]))
        (refine TD.val0 (v := ?v13) (by simp only [List.getElem?_toArray, List.getElem?_cons_succ, List.getElem?_cons_zero]; rfl) rfl ?hw13 (fun w1 => ?hy13) ?hn13; (case hw13 => rfl); (case hy13 => (go_simp; (try with_reducible rfl))); (try simp only [Act.put, List.setIfInBounds_toArray, List.set_cons_zero, List.set_cons_succ]))
        (refine TD.val0 (v := ?v14) (by simp only [List.getElem?_toArray, List.getElem?_cons_succ, List.getElem?_cons_zero]; rfl) rfl ?hw14 (fun w1 => ?hy14) ?hn14; (case hw14 => rfl); (case hy14 => (go_simp; (try with_reducible rfl))); (try simp only [Act.put, List.setIfInBounds_toArray, List.set_cons_zero, List.set_cons_succ]))
        (refine TD.load (v := ?v15) (p := ?p15) (Mod.refl _ _) (by simp only [List.getElem?_toArray, List.getElem?_cons_succ, List.getElem?_cons_zero]; rfl) rfl ?hw15 rfl ?hx15 (fun wq hSq => ?hy15) ?hn15; (case hw15 => rfl); (case hx15 => (simp only [Act.eval, Array.getD_eq_getD_getElem?, List.getElem?_toArray, List.getElem?_cons_succ, List.getElem?_cons_zero, Option.getD_some]; (try rfl))); (case hy15 => (have ktq := hSq.at kt (fun h => h); have klq := hSq.at kl (fun h => h); go_simp; (try with_reducible rfl))); (try simp only [Act.put, List.setIfInBounds_toArray, List.set_cons_zero, List.set_cons_succ]))
        (refine TD.val0 (v := ?v16) (by simp only [List.getElem?_toArray, List.getElem?_cons_succ, List.getElem?_cons_zero]; rfl) rfl ?hw16 (fun w1 => ?hy16) ?hn16; (case hw16 => rfl); (case hy16 => (go_simp; (try with_reducible rfl))); (try simp only [Act.put, List.setIfInBounds_toArray, List.set_cons_zero, List.set_cons_succ]))
        (refine TD.build (v := ?v17) (ps := ?p17) (by simp only [List.getElem?_toArray, List.getElem?_cons_succ, List.getElem?_cons_zero]; rfl) rfl ?hw17 rfl ?hx17 (fun w1 => ?hy17) ?hn17; (case hw17 => rfl); (case hx17 => (simp only [List.map_toArray, List.map_cons, List.map_nil, Act.eval, Array.getD_eq_getD_getElem?, List.getElem?_toArray, List.getElem?_cons_succ, List.getElem?_cons_zero, Option.getD_some]; (try rfl))); (case hy17 => (rw [hbl]; (try with_reducible rfl))); (try simp only [Act.put, List.setIfInBounds_toArray, List.set_cons_zero, List.set_cons_succ]))
        (refine TD.bslice (by simp only [List.getElem?_toArray, List.getElem?_cons_succ, List.getElem?_cons_zero]; rfl) rfl ?hw18 rfl rfl ?hx18 hbs (fun p46 hp46 => ?hn18); (case hw18 => rfl); (case hx18 => (simp only [List.map_toArray, List.map_cons, List.map_nil, Act.eval, Array.getD_eq_getD_getElem?, List.getElem?_toArray, List.getElem?_cons_succ, List.getElem?_cons_zero, Option.getD_some]; (try rfl))); (try simp only [Act.put, List.setIfInBounds_toArray, List.set_cons_zero, List.set_cons_succ]))
        refine TD.eff (by simp only [List.getElem?_toArray, List.getElem?_cons_succ, List.getElem?_cons_zero]; rfl) rfl (fun wE hr => ?_)
        have kt := hr.mod.at kt (fun h => h)
        have kl := hr.mod.at kl (fun h => h)
        have kp46 := hr.box p46 _ (by first | exact Bx.set_same _ _ _ | (simp only [Bx.set_same]; rfl)); dsimp only [Value.cells] at kp46; obtain ⟨gp46, kp46⟩ := kp46
        have mE := hr.mod
        have hR2 := HR.out.mod0 hr.mod
        obtain ⟨v3, w3, hap, hO3, m3, hn3⟩ := SlOff.append lockT (q := [((k, b, i) : Lk)]) (c := 1) hR2.own (SlAt.one kp46 ((k, b, i) : Lk) rfl (lkn_size _ _ _)) (by simp only [List.length_cons, List.length_nil]; omega) (by omega) (by have := hr.mod.size; omega) 38
        have hap : (Builtin.append_ #[38, 38] 38 #[.slice a' X.length c', .slice (some ⟨p46, 0, none⟩) 1 1]).run Try.prog wE = .ok v3 w3 := hap
        have hol := hR2.own.lt
        have hsE := mE.size
        have hs3 := m3.size
        replace kt := m3.at kt (fun e => by have := (hol _ e).1; omega)
        obtain ⟨a3, c3, rfl, _, _, _⟩ := hO3.at lockT
        have HO3 := Lib.hid hO3
        clear hO3 hol
        (refine eff_append (by simp only [List.getElem?_toArray, List.getElem?_cons_succ, List.getElem?_cons_zero]; rfl) ?hw20 rfl ?hx20 ?hz20 hap ?hn20; (case hw20 => rfl); (case hx20 => (simp only [Act.eval, Array.getD_eq_getD_getElem?, List.getElem?_toArray, List.getElem?_cons_succ, List.getElem?_cons_zero, Option.getD_some]; (try rfl))); (case hz20 => (simp only [Act.eval, Array.getD_eq_getD_getElem?, List.getElem?_toArray, List.getElem?_cons_succ, List.getElem?_cons_zero, Option.getD_some]; (try rfl))); (try simp only [Act.put, List.setIfInBounds_toArray, List.set_cons_zero, List.set_cons_succ]))
        (refine TE.val0 (v := ?v21) (by simp only [List.getElem?_toArray, List.getElem?_cons_succ, List.getElem?_cons_zero]; rfl) ?hw21 (fun w1 => ?hy21) ?hn21; (case hw21 => rfl); (case hy21 => (go_simp; (try with_reducible rfl))); (try simp only [Act.put, List.setIfInBounds_toArray, List.set_cons_zero, List.set_cons_succ]))
        (refine TE.val0 (v := ?v22) (by simp only [List.getElem?_toArray, List.getElem?_cons_succ, List.getElem?_cons_zero]; rfl) ?hw22 (fun w1 => ?hy22) ?hn22; (case hw22 => rfl); (case hy22 => (go_simp; (try with_reducible rfl))); (try simp only [Act.put, List.setIfInBounds_toArray, List.set_cons_zero, List.set_cons_succ]))
        refine TE.step (by simp only [List.getElem?_toArray, List.getElem?_cons_succ, List.getElem?_cons_zero]; rfl) rfl ?_
        (refine eff_store (X := ?X23) (Y := ?Y23) (w' := ?w23) (by simp only [List.getElem?_toArray, List.getElem?_cons_succ, List.getElem?_cons_zero]; rfl) ?hw23 rfl ?hx23 ?hz23 ?hy23 ?hn23; (case hw23 => rfl); (case hx23 => (simp only [Act.eval, Array.getD_eq_getD_getElem?, List.getElem?_toArray, List.getElem?_cons_succ, List.getElem?_cons_zero, Option.getD_some]; (try rfl))); (case hz23 => (simp only [Act.eval, Array.getD_eq_getD_getElem?, List.getElem?_toArray, List.getElem?_cons_succ, List.getElem?_cons_zero, Option.getD_some]; (try rfl))); (case hy23 => (go_simp; (try with_reducible rfl))))
        (first | refine TE.nil_set kt (fun wn kt mS => ?_) | refine TE.nil_setCell kt (fun wn kt mS => ?_))
        (try simp only [Array.setIfInBounds, List.setIfInBounds_toArray, List.set_cons_zero, List.set_cons_succ] at kt)
        clear hap hbl hbs
        have hs4 := mS.size
        replace kt : wn.heap[tb]? = some (.cells #[.int .i64 n, .slice a3 (X ++ [((k, b, i) : Lk)]).length c3] 40 (0, 0)) := by simpa using kt
        have HR4 : Hid (RTab wn tb n base (.slice a3 (X ++ [((k, b, i) : Lk)]).length c3) (L ++ locksOf (l.take (j + 1)) i)) := Lib.hid (by
          rw [HTK.out, ← List.append_assoc, HG.out]
          exact ⟨kt, HO3.out.mod mS (fun b hb e => by have := (HO3.out.lt b hb).1; omega), hlt'⟩)
        have hm4 : RMod tb v w wn := by
          have h1 : Mod (fun j => j = tb ∨ v.ownBlock = some j) w wE := hm.then0 mE
          have h2 := h1.then m3 (fun q hq e => by
            rcases HN.out q e with h | h
            · exact .inr h
            · omega)
          exact h2.then mS (fun q hq e => .inl e)
        have HN4 : Hid (OwnNew v (.slice a3 (X ++ [((k, b, i) : Lk)]).length c3) w) := Lib.hid (fun q hq => by
          rcases hn3 q hq with h | h
          · exact HN.out q h
          · exact .inr (by omega))
        go_wp2_with fail
        go_roundw
        case rel => exact ⟨j + 1, _, by omega, by go_num, HR4.out, HN4, by omega, hm4⟩
        case measure => simp [intOf]; omega
      · obtain rfl : j = l.length := by omega
        rw [List.take_length] at hR
        have HR := Lib.hid hR
        clear hR
        go_wp2_with fail
        go_ret
        exact ⟨rfl, ⟨v', HR.out, HN.out⟩, hm⟩
theorem rtake_neg (tb n base : Nat) (v : Value) (L : List Lk) (a : Option Addr) (l c : Nat) (i : Int) (w : World) (h : RTab w tb n base v L) (h1 : i < 0) :
    Calls Try.prog 18 #[.pointer (some ⟨tb, 0, none⟩), .slice a l c, .int .i64 i] w fun e w' => e = .returned (.int .i64 1) ∧ w = w' := by
  have kt := h.cells
  clear h
  go_enter Try.func18, Try.ntmps18
  go_wp2_with fail
  go_ret
  exact ⟨rfl, rfl⟩
theorem rtake_big (tb n base : Nat) (v : Value) (L : List Lk) (a : Option Addr) (l c : Nat) (i : Int) (w : World) (h : RTab w tb n base v L) (h0 : 0 ≤ i) (h1 : (n : Int) ≤ i) :
    Calls Try.prog 18 #[.pointer (some ⟨tb, 0, none⟩), .slice a l c, .int .i64 i] w fun e w' => e = .returned (.int .i64 1) ∧ w = w' := by
  have kt := h.cells
  clear h
  go_enter Try.func18, Try.ntmps18
  go_wp2_with fail
  go_ret
  exact ⟨rfl, rfl⟩
theorem rrel_neg (tb n base : Nat) (v : Value) (L : List Lk) (a : Option Addr) (l c : Nat) (i : Int) (w : World) (h : RTab w tb n base v L) (h1 : i < 0) :
    Calls Try.prog 16 #[.pointer (some ⟨tb, 0, none⟩), .slice a l c, .int .i64 i] w fun e w' => e = .returned (.int .i64 1) ∧ w = w' := by
  have kt := h.cells
  clear h
  go_enter Try.func16, Try.ntmps16
  go_wp2_with fail
  go_ret
  exact ⟨rfl, rfl⟩
theorem rrel_big (tb n base : Nat) (v : Value) (L : List Lk) (a : Option Addr) (l c : Nat) (i : Int) (w : World) (h : RTab w tb n base v L) (h0 : 0 ≤ i) (h1 : (n : Int) ≤ i) :
    Calls Try.prog 16 #[.pointer (some ⟨tb, 0, none⟩), .slice a l c, .int .i64 i] w fun e w' => e = .returned (.int .i64 1) ∧ w = w' := by
  have kt := h.cells
  clear h
  go_enter Try.func16, Try.ntmps16
  go_wp2_with fail
  go_ret
  exact ⟨rfl, rfl⟩
end Go.Proofs.Ytleenmldlbccmaa
