/- The document's own graph: Pop, Put. -/
import Derived.Test.YtffcnnogkpdinaaRq2
import Derived.Test.YtffcnnogkpdinaaTf
namespace Go.Proofs.Ytffcnnogkpdinaa
open Go.RowKit
open Go.ChangeMaps (setBlock)
set_option linter.unusedSimpArgs false
set_option linter.unusedVariables false
attribute [local go_sem ↓] wlKey wlRole ldKey ldRole stKey stRole eqKey1
attribute [local go_sem] zKey_size zRole_size kc_ext rc_size rc_key rc_all rc_s rc_w rc_s' rc_w' rc_one one_int one_bool one_ptr one_slice one_map kc_one kc_one0 cell_blk frozen_blk Value.cells eqMap neMap
def zNdQ : Array Value := #[.int .i64 0, .int .i64 0, .slice none 0 0]
theorem ldNdQ (w : World) (b o : Nat) : (Instr.loadAt 51 (.pointer (some ⟨b, o, none⟩))).run Try.prog w =
      match w.heap[b]? with
      | some (.cells cs _ _) => if o + 3 ≤ cs.size then .ok (.agg (cs.extract o (o + 3))) w else farL Try.prog w 51 b o
      | _ => farL Try.prog w 51 b o := load_rule (d := _) Try.underlying51 rfl (by kernel_rfl) w b o
theorem stNdQ (w : World) (b o : Nat) (xs : Array Value) : (Instr.storeAt 51 (.pointer (some ⟨b, o, none⟩)) (.agg xs)).run Try.prog w =
      match w.heap[b]? with
      | some (.cells cs U (0, 0)) =>
        if o + 3 ≤ cs.size ∧ xs.size = 3 ∧ xs.all (·.oneCell') = true then .ok () (setBlock w b (.cells (if o = 0 ∧ 3 = cs.size then xs else wr cs o xs.toList) U (0, 0))) else farS Try.prog w 51 b o (.agg xs)
      | _ => farS Try.prog w 51 b o (.agg xs) := store_rule (by kernel_rfl) w b o xs
theorem wlNdQ (dst : Option Tmp) (x : Operand) (ty : TypeId) (pos : String) (after : Array Edge) (g : Option (Nat × Bool)) (a : Act) (w : World) (K : Act → World → Prop) (Q : Exit → Act → World → Prop) :
    Oper.wp Try.prog { dst := dst, op := .load 51 x, type := ty, pos := pos, after := after, guard := g } a w K Q =
      (match a.eval x with
      | .pointer (some ⟨b, o, none⟩) =>
        (match w.heap[b]? with
        | some (.cells cs _ _) => if o + 3 ≤ cs.size then K (a.put dst (.agg (cs.extract o (o + 3)))) w else farW Try.prog { dst := dst, op := .load 51 x, type := ty, pos := pos, after := after, guard := g } a w K Q
        | _ => farW Try.prog { dst := dst, op := .load 51 x, type := ty, pos := pos, after := after, guard := g } a w K Q)
      | _ => farW Try.prog { dst := dst, op := .load 51 x, type := ty, pos := pos, after := after, guard := g } a w K Q) := wp_load_rule (d := _) Try.underlying51 rfl (by kernel_rfl) dst x ty pos after g a w K Q
theorem alNdQ (w : World) : (Instr.alloc 51 true (.tuple #[])).run Try.prog w = .ok (.pointer (some ⟨w.heap.size, 0, none⟩)) (w.alloc (.cells zNdQ 51)) :=
  run_alloc_row (z := .agg zNdQ) (fun w => by kernel_rfl) w
theorem zNdQ_size : zNdQ.size = 3 := rfl
theorem nq_all (y : Nq) : (nq y).all (·.oneCell') 0 3 = true := all_of (nq_size y) (by simp [nq, Value.oneCell'])
attribute [local go_sem ↓] wlNdQ ldNdQ stNdQ
attribute [local go_sem] nq_size nq_all zNdQ_size
theorem eraseIdx_at {α : Type} (L : List α) (i : Nat) : L.take i ++ L.drop (i + 1) = L.eraseIdx i := (List.eraseIdx_eq_take_drop_succ L i).symm
/-- A slice of nodes that a pass has made. -/
def OwnL (B0 : Nat) (l : List Nq) (v : Value) : Land := fun T w => SlOwn nq 3 51 w B0 v l ∧ ∀ g, v.ownBlock = some g → T g
theorem goodOwn (B0 : Nat) (l : List Nq) (v : Value) : Good (OwnL B0 l v) where
  cl := fun T w w' h hm => ⟨h.1.mod hm (fun b hb hn => hn (h.2 b hb)), h.2⟩
  gr := fun T T' w hT h => ⟨h.1, fun g hg => hT g (h.2 g hg)⟩
theorem app_nil {w : World} {B0 c : Nat} {q : List Nq} {a : Option Addr} {T : Nat → Prop} (hs : SlAt nq 3 w a q) (hq : q.length ≤ 1000000) (hB : B0 ≤ w.heap.size) : ∃ v w', (Builtin.append_ #[47, 47] 47 #[.slice none 0 0, .slice a q.length c]).run Try.prog w = .ok v w' ∧ Mod T w w' ∧ OwnL B0 q v (Grow T w w') w' := by
  obtain ⟨v, w', hap, hO, m, hn⟩ := SlOwn.append nqT (c := c) (SlOwn.nil (f := nq) (n := 3) (E := 51) w B0) hs (by simpa using hq) (by decide) hB 47
  refine ⟨v, w', hap, m.mono (fun _ _ e => by cases e), by simpa using hO, fun g hg => ?_⟩
  rcases hn with h | h
  · rw [hg] at h
    cases h
  · rw [hg] at h
    cases h
    exact .inr ⟨Nat.le_refl _, (hO.lt _ hg).2⟩
theorem app_own {w : World} {B0 c : Nat} {l q : List Nq} {v : Value} {a : Option Addr} {T : Nat → Prop} (hv : OwnL B0 l v T w) (hs : SlAt nq 3 w a q) (hq : l.length + q.length ≤ 1000000) (hB : B0 ≤ w.heap.size) : ∃ v' w', (Builtin.append_ #[47, 47] 47 #[v, .slice a q.length c]).run Try.prog w = .ok v' w' ∧ Mod T w w' ∧ OwnL B0 (l ++ q) v' (Grow T w w') w' := by
  obtain ⟨v', w', hap, hO, m, hn⟩ := SlOwn.append nqT (c := c) hv.1 hs hq (by decide) hB 47
  refine ⟨v', w', hap, m.mono (fun i _ e => hv.2 i e), hO, fun g hg => ?_⟩
  rcases hn with h | h
  · rw [hg] at h
    exact .inl (hv.2 g h.symm)
  · rw [hg] at h
    cases h
    exact .inr ⟨Nat.le_refl _, (hO.lt _ hg).2⟩
theorem own_base0 {w : World} {B : Nat} {v : Value} {l : List Nq} (h : SlOwn nq 3 51 w B v l) : SlOwn nq 3 51 w 0 v l := by
  refine ⟨h.1, ?_⟩
  rcases h.2 with h | ⟨g, cap, cur, e, hb, r⟩
  · exact .inl h
  · exact .inr ⟨g, cap, cur, e, Nat.zero_le _, r⟩
set_option maxRecDepth 20000 in
set_option maxHeartbeats 6400000 in
theorem qpop_c {p : Nat} {L : List Nq} {T : Nat → Prop} {w : World} (h : RQ p L T w) (hT : ∀ i, T i → i < w.heap.size) (id : Int64) (hL : L.length ≤ 900) : Calls Try.prog 17 #[ptrV p, .int .i64 id.toInt] w fun e w' =>
    ((∀ y ∈ L, y.x.id ≠ id) ∧ e = .returned (.int .i64 11) ∧ Mod (fun _ => False) w w') ∨
    ∃ (i : Nat) (y : Nq), L[i]? = some y ∧ y.x.id = id ∧ ((((rnsOf L).take i).any (fun z => conf z.l y.x.l) = true ∧ e = .returned (.int .i64 23) ∧ Mod (fun _ => False) w w') ∨ (((rnsOf L).take i).any (fun z => conf z.l y.x.l) = false ∧ e = .returned (.int .i64 0) ∧ ∃ T', RQ p (L.eraseIdx i) T' w' ∧ Mod T w w' ∧ (∀ i, T' i → T i ∨ w.heap.size ≤ i) ∧ ∀ i, T' i → i < w'.heap.size)) := by
  have HH := Lib.hid h
  have HRo := Lib.hid h.roles
  obtain ⟨v, kr, hO, hTp, hTv, hro⟩ := h
  have HT := Lib.hid (And.intro hT (And.intro hTp hTv))
  have HRR := Lib.hid hro
  obtain ⟨a, c, rfl, hs, _⟩ := hO.at nqT
  have HO := Lib.hid hO
  have HS := Lib.hid hs
  clear hT hTp hTv hO hro hs
  go_enter Try.func17, Try.ntmps17
  go_wp2_with fail
  go_at_call 33
  refine (qat_c HH.out id (by omega)).mono ?_
  rintro e w2 ⟨hc, hm⟩
  have kr := hm.at0 kr
  rcases hc with ⟨i, y, rfl, hy, hid⟩ | ⟨rfl, hno⟩
  · obtain ⟨g, o, C, U, fr, rfl, kl, _, _, hr2⟩ := nq_at (HS.out.mod0 hm) hy
    have hlt : i < L.length := (List.getElem?_eq_some_iff.1 hy).1
    have hd : decide ((i : Int) < 0) = false := decide_eq_false (by omega)
    have HY := Lib.hid (And.intro hy (And.intro hid (HRo.out y (List.mem_of_getElem? hy))))
    clear hy hid
    go_wp2_with fail
    go_at_call 34
    refine (blocker_c (HH.out.mod0 hm) i (by omega) (by omega) y.a y.x.l y.c (SlAt.mod0 HY.out.2.2.1 hm) HY.out.2.2.2).mono ?_
    rintro e w3 ⟨hc, hm2⟩
    rcases hc with ⟨j, z, rfl, hj, hz, hcf, _⟩ | ⟨rfl, hno⟩
    · have hdj : decide ((0 : Int) ≤ (j : Int)) = true := decide_eq_true (by omega)
      have hany : ((rnsOf L).take i).any (fun z => conf z.l y.x.l) = true := by
        refine List.any_eq_true.2 ⟨z.x, List.mem_iff_getElem?.2 ⟨j, ?_⟩, hcf⟩
        rw [List.getElem?_take, if_pos hj]
        unfold rnsOf
        rw [List.getElem?_map, hz]
        rfl
      have HA := Lib.hid hany
      clear hany hz hcf
      go_wp2_with fail
      go_ret
      exact .inr ⟨i, y, HY.out.1, HY.out.2.1, .inl ⟨HA.out, rfl, hm.then0 hm2⟩⟩
    · have HN := Lib.hid hno
      have m3 := hm.then0 hm2
      have kr := hm2.at0 kr
      have sw3 := m3.size
      clear hno kl hr2
      have hO3 := HO.out.mod0 m3
      have hi1 : i + 1 ≤ L.length := hlt
      have hw1 : IntKind.i64.wrap ((i : Int) + 1) = ((i + 1 : Nat) : Int) := by
        rw [IntKind.wrap_i64]
        omega
      obtain ⟨at1, ct1, hq1, hs1, hb1⟩ := own_takeR nqT hO3 (k := i) (by omega)
      obtain ⟨at2, ct2, hq2, hs2, hb2⟩ := own_dropR nqT hO3 hi1
      have hkl : (L.take i).length = i := by rw [List.length_take]; omega
      have hdl : (L.drop (i + 1)).length = L.length - (i + 1) := by rw [List.length_drop]
      rw [hdl] at hq2
      have HS2 := Lib.hid (And.intro hs1 (And.intro hs2 (And.intro hkl hdl)))
      clear hs1 hs2 hkl hdl hb1 hb2 hO3 hm hm2
      replace hq2 : ∀ w2, (Instr.sliceAt 47 _ (some (.int .i64 ((i : Int) + 1))) none none).run Try.prog w2 = _ := hq2
      have htl : (L.take i).length = i := HS2.out.2.2.1
      go_upto_region 6 with fail
      have Lkr := lt_size kr
      refine wp_epass (T0 := fun _ => False) (K := fun _ _ => True) (κ := fun i => [0, 0, 0, 0, 0, 0, 0, 6, 0, 0, 0, 0, 0, 0, 0, 6, 0, 0, 6].getD i 0) (υ := fun i => [[], [], [], [], [], [], [], [], [], [], [], [], [], [], [], [], [], [], []].getD i []) [0, 1, 2, 3, 4, 5, 6, 7, 8, 9, 10, 11, 12, 13, 14, 15, 16, 17] [18] (by kernel_rfl) (by kernel_rfl) (Good.true).cl (trivial) (fun _ h => h.elim) ?_
      have gK := Good.true
      (refine TG.v0 (v := ?v1) (by simp only [List.getElem?_toArray, List.getElem?_cons_succ, List.getElem?_cons_zero]; rfl) rfl ?hw1 (fun w1 => ?hy1) ?hn1; (case hw1 => rfl); (case hy1 => (go_simp; (try with_reducible rfl))); (try simp only [Act.put, List.setIfInBounds_toArray, List.set_cons_zero, List.set_cons_succ]))
      (refine TG.v0 (v := ?v2) (by simp only [List.getElem?_toArray, List.getElem?_cons_succ, List.getElem?_cons_zero]; rfl) rfl ?hw2 (fun w1 => ?hy2) ?hn2; (case hw2 => rfl); (case hy2 => (go_simp; (try with_reducible rfl))); (try simp only [Act.put, List.setIfInBounds_toArray, List.set_cons_zero, List.set_cons_succ]))
      (refine TG.v0 (v := ?v3) (by simp only [List.getElem?_toArray, List.getElem?_cons_succ, List.getElem?_cons_zero]; rfl) rfl ?hw3 (fun w1 => ?hy3) ?hn3; (case hw3 => rfl); (case hy3 => (go_simp; (try with_reducible rfl))); (try simp only [Act.put, List.setIfInBounds_toArray, List.set_cons_zero, List.set_cons_succ]))
      (refine TG.v0 (v := ?v4) (by simp only [List.getElem?_toArray, List.getElem?_cons_succ, List.getElem?_cons_zero]; rfl) rfl ?hw4 (fun w1 => ?hy4) ?hn4; (case hw4 => rfl); (case hy4 => (go_simp; (try with_reducible rfl))); (try simp only [Act.put, List.setIfInBounds_toArray, List.set_cons_zero, List.set_cons_succ]))
      (refine TG.load (v := ?v5) (p := ?p5) (by simp only [List.getElem?_toArray, List.getElem?_cons_succ, List.getElem?_cons_zero]; rfl) rfl ?hw5 rfl ?hx5 (fun wq hSq => ?hy5) ?hn5; (case hw5 => rfl); (case hx5 => (simp only [Act.eval, Array.getD_eq_getD_getElem?, List.getElem?_toArray, List.getElem?_cons_succ, List.getElem?_cons_zero, Option.getD_some]; (try rfl))); (case hy5 => (have krq := hSq.at kr (by intro hT; first | exact hT | exact absurd hT (by assumption) | omega | (simp only at hT; omega)); go_simp; (try with_reducible rfl))); (try simp only [Act.put, List.setIfInBounds_toArray, List.set_cons_zero, List.set_cons_succ]))
      (refine TG.v0 (v := ?v6) (by simp only [List.getElem?_toArray, List.getElem?_cons_succ, List.getElem?_cons_zero]; rfl) rfl ?hw6 (fun w1 => ?hy6) ?hn6; (case hw6 => rfl); (case hy6 => (go_simp; (try with_reducible rfl))); (try simp only [Act.put, List.setIfInBounds_toArray, List.set_cons_zero, List.set_cons_succ]))
      (refine TG.slice (by simp only [List.getElem?_toArray, List.getElem?_cons_succ, List.getElem?_cons_zero]; rfl) rfl ?hw7 rfl ?hs7 ?hl7 ?hh7 ?hm7 hq1 ?hn7; (case hw7 => rfl); (case hs7 => (simp only [Act.eval, Array.getD_eq_getD_getElem?, List.getElem?_toArray, List.getElem?_cons_succ, List.getElem?_cons_zero, Option.getD_some]; (try rfl))); (case hl7 => first | rfl | (simp only [Option.map_some, Act.eval, Array.getD_eq_getD_getElem?, List.getElem?_toArray, List.getElem?_cons_succ, List.getElem?_cons_zero, Option.getD_some]; (try rfl))); (case hh7 => first | rfl | (simp only [Option.map_some, Act.eval, Array.getD_eq_getD_getElem?, List.getElem?_toArray, List.getElem?_cons_succ, List.getElem?_cons_zero, Option.getD_some]; (try rfl))); (case hm7 => rfl); (try simp only [Act.put, List.setIfInBounds_toArray, List.set_cons_zero, List.set_cons_succ]))
      (refine TG.appK (X := ?X8) (Y := ?Y8) (OwnL w.heap.size (L.take i)) (goodOwn w.heap.size (L.take i)) (by simp only [List.getElem?_toArray, List.getElem?_cons_succ, List.getElem?_cons_zero]; rfl) rfl ?hw8 rfl ?hx8 ?hz8 (fun T wq kq ltq hSq ub => ?hy8) ?hn8; (case hw8 => rfl); (case hx8 => (simp only [Act.eval, Array.getD_eq_getD_getElem?, List.getElem?_toArray, List.getElem?_cons_succ, List.getElem?_cons_zero, Option.getD_some]; (try rfl))); (case hz8 => (simp only [Act.eval, Array.getD_eq_getD_getElem?, List.getElem?_toArray, List.getElem?_cons_succ, List.getElem?_cons_zero, Option.getD_some]; (try rfl))); (case hy8 => (have krq := hSq.at kr (by intro hT; first | exact hT | exact absurd hT (by assumption) | omega | (simp only at hT; omega)); have hh := app_nil (B0 := w.heap.size) (c := ct1) (T := T) (HS2.out.1.mod0 hSq) (by rw [HS2.out.2.2.1]; omega) (Nat.le_trans sw3 hSq.size); rw [HS2.out.2.2.1] at hh; exact hh)); rintro v8 ⟨wI, TI, hI⟩; replace gK := (goodOwn w.heap.size (L.take i)) v8; skip; (try clear hI TI wI); (try simp only [Act.put, List.setIfInBounds_toArray, List.set_cons_zero, List.set_cons_succ]))
      (refine TG.v0 (v := ?v9) (by simp only [List.getElem?_toArray, List.getElem?_cons_succ, List.getElem?_cons_zero]; rfl) rfl ?hw9 (fun w1 => ?hy9) ?hn9; (case hw9 => rfl); (case hy9 => (go_simp; (try with_reducible rfl))); (try simp only [Act.put, List.setIfInBounds_toArray, List.set_cons_zero, List.set_cons_succ]))
      (refine TG.v0 (v := ?v10) (by simp only [List.getElem?_toArray, List.getElem?_cons_succ, List.getElem?_cons_zero]; rfl) rfl ?hw10 (fun w1 => ?hy10) ?hn10; (case hw10 => rfl); (case hy10 => (go_simp; (try with_reducible rfl))); (try simp only [Act.put, List.setIfInBounds_toArray, List.set_cons_zero, List.set_cons_succ]))
      (refine TG.v0 (v := ?v11) (by simp only [List.getElem?_toArray, List.getElem?_cons_succ, List.getElem?_cons_zero]; rfl) rfl ?hw11 (fun w1 => ?hy11) ?hn11; (case hw11 => rfl); (case hy11 => (go_simp; (try with_reducible rfl))); (try simp only [Act.put, List.setIfInBounds_toArray, List.set_cons_zero, List.set_cons_succ]))
      (refine TG.load (v := ?v12) (p := ?p12) (by simp only [List.getElem?_toArray, List.getElem?_cons_succ, List.getElem?_cons_zero]; rfl) rfl ?hw12 rfl ?hx12 (fun wq hSq => ?hy12) ?hn12; (case hw12 => rfl); (case hx12 => (simp only [Act.eval, Array.getD_eq_getD_getElem?, List.getElem?_toArray, List.getElem?_cons_succ, List.getElem?_cons_zero, Option.getD_some]; (try rfl))); (case hy12 => (have krq := hSq.at kr (by intro hT; first | exact hT | exact absurd hT (by assumption) | omega | (simp only at hT; omega)); go_simp; (try with_reducible rfl))); (try simp only [Act.put, List.setIfInBounds_toArray, List.set_cons_zero, List.set_cons_succ]))
      (refine TG.v0 (v := ?v13) (by simp only [List.getElem?_toArray, List.getElem?_cons_succ, List.getElem?_cons_zero]; rfl) rfl ?hw13 (fun w1 => ?hy13) ?hn13; (case hw13 => rfl); (case hy13 => (go_simp; (try with_reducible rfl))); (try simp only [Act.put, List.setIfInBounds_toArray, List.set_cons_zero, List.set_cons_succ]))
      (refine TG.v0 (v := ?v14) (by simp only [List.getElem?_toArray, List.getElem?_cons_succ, List.getElem?_cons_zero]; rfl) rfl ?hw14 (fun w1 => ?hy14) ?hn14; (case hw14 => rfl); (case hy14 => (go_simp; (try with_reducible rfl))); (try simp only [Act.put, List.setIfInBounds_toArray, List.set_cons_zero, List.set_cons_succ]))
      (refine TG.slice (by simp only [List.getElem?_toArray, List.getElem?_cons_succ, List.getElem?_cons_zero]; rfl) rfl ?hw15 rfl ?hs15 ?hl15 ?hh15 ?hm15 hq2 ?hn15; (case hw15 => rfl); (case hs15 => (simp only [Act.eval, Array.getD_eq_getD_getElem?, List.getElem?_toArray, List.getElem?_cons_succ, List.getElem?_cons_zero, Option.getD_some]; (try rfl))); (case hl15 => first | rfl | (simp only [Option.map_some, Act.eval, Array.getD_eq_getD_getElem?, List.getElem?_toArray, List.getElem?_cons_succ, List.getElem?_cons_zero, Option.getD_some]; (try rfl))); (case hh15 => first | rfl | (simp only [Option.map_some, Act.eval, Array.getD_eq_getD_getElem?, List.getElem?_toArray, List.getElem?_cons_succ, List.getElem?_cons_zero, Option.getD_some]; (try rfl))); (case hm15 => rfl); (try simp only [Act.put, List.setIfInBounds_toArray, List.set_cons_zero, List.set_cons_succ]))
      (refine TG.appK (X := ?X16) (Y := ?Y16) (OwnL w.heap.size (L.take i ++ L.drop (i + 1))) (goodOwn w.heap.size (L.take i ++ L.drop (i + 1))) (by simp only [List.getElem?_toArray, List.getElem?_cons_succ, List.getElem?_cons_zero]; rfl) rfl ?hw16 rfl ?hx16 ?hz16 (fun T wq kq ltq hSq ub => ?hy16) ?hn16; (case hw16 => rfl); (case hx16 => (simp only [Act.eval, Array.getD_eq_getD_getElem?, List.getElem?_toArray, List.getElem?_cons_succ, List.getElem?_cons_zero, Option.getD_some]; (try rfl))); (case hz16 => (simp only [Act.eval, Array.getD_eq_getD_getElem?, List.getElem?_toArray, List.getElem?_cons_succ, List.getElem?_cons_zero, Option.getD_some]; (try rfl))); (case hy16 => (have krq := hSq.at kr (by intro hT; first | exact hT | exact absurd hT (by assumption) | omega | (simp only at hT; omega)); have hh := app_own (c := ct2) kq (HS2.out.2.1.mod0 hSq) (by rw [HS2.out.2.2.1, HS2.out.2.2.2]; omega) (Nat.le_trans sw3 hSq.size); rw [HS2.out.2.2.2] at hh; exact hh)); rintro v16 ⟨wI, TI, hI⟩; replace gK := (goodOwn w.heap.size (L.take i ++ L.drop (i + 1))) v16; skip; (try clear hI TI wI); (try simp only [Act.put, List.setIfInBounds_toArray, List.set_cons_zero, List.set_cons_succ]))
      (refine TG.v0 (v := ?v17) (by simp only [List.getElem?_toArray, List.getElem?_cons_succ, List.getElem?_cons_zero]; rfl) rfl ?hw17 (fun w1 => ?hy17) ?hn17; (case hw17 => rfl); (case hy17 => (go_simp; (try with_reducible rfl))); (try simp only [Act.put, List.setIfInBounds_toArray, List.set_cons_zero, List.set_cons_succ]))
      (refine TG.v0 (v := ?v18) (by simp only [List.getElem?_toArray, List.getElem?_cons_succ, List.getElem?_cons_zero]; rfl) rfl ?hw18 (fun w1 => ?hy18) ?hn18; (case hw18 => rfl); (case hy18 => (go_simp; (try with_reducible rfl))); (try simp only [Act.put, List.setIfInBounds_toArray, List.set_cons_zero, List.set_cons_succ]))
      refine TG.nil (fun w4 ⟨TR, hr⟩ => ?_)
      have kr := hr.mod.at kr (by intro hT; first | exact hT | exact absurd hT (by assumption) | omega | (simp only at hT; omega))
      clear gK
      have mw := m3.then0 hr.mod
      have hO6 := hr.k.1
      obtain ⟨a6, c6, hv6, _⟩ := hO6.at nqT
      generalize hn6 : (L.take i ++ L.drop (i + 1)).length = n6 at hv6
      subst hv6
      have hlt6 := hO6.lt
      have hpw := HT.out.1 p HT.out.2.1
      have HO6 := Lib.hid (And.intro hO6 hlt6)
      clear hO6 hlt6 hr hn6 hq1 hq2 htl
      refine TE.step (by simp only [List.getElem?_toArray, List.getElem?_cons_succ, List.getElem?_cons_zero]; rfl) rfl ?_
      (refine eff_store (X := ?X19) (Y := ?Y19) (w' := ?w19) (by simp only [List.getElem?_toArray, List.getElem?_cons_succ, List.getElem?_cons_zero]; rfl) ?hw19 rfl ?hx19 ?hz19 ?hy19 ?hn19; (case hw19 => rfl); (case hx19 => (simp only [Act.eval, Array.getD_eq_getD_getElem?, List.getElem?_toArray, List.getElem?_cons_succ, List.getElem?_cons_zero, Option.getD_some]; (try rfl))); (case hz19 => (simp only [Act.eval, Array.getD_eq_getD_getElem?, List.getElem?_toArray, List.getElem?_cons_succ, List.getElem?_cons_zero, Option.getD_some]; (try rfl))); (case hy19 => (go_simp; (try with_reducible rfl))))
      (first | refine TE.nil_set kr (fun wn kr mS => ?_) | refine TE.nil_setCell kr (fun wn kr mS => ?_))
      (try simp only [Array.setIfInBounds, List.setIfInBounds_toArray, List.set_cons_zero, List.set_cons_succ] at kr)
      (try simp only [Act.put, List.setIfInBounds_toArray, List.set_cons_zero, List.set_cons_succ])
      replace kr : wn.heap[p]? = some (.cells #[.slice a6 n6 c6] 49 (0, 0)) := kr
      have m5 : Mod (fun i => i = p) w wn := (mw.mono (fun _ _ e => e.elim)).then mS (fun _ _ e => e)
      have HO7 := Lib.hid (HO6.out.1.mod mS (fun g hg e => by have := (HO6.out.2 g hg).1; omega))
      have HKR := Lib.hid kr
      clear mS mw
      go_wp2_with fail
      go_ret
      have hO9 := HO7.out
      rw [eraseIdx_at] at hO9
      have hlt9 := hO9.lt
      have hsz := m5.size
      refine .inr ⟨i, y, HY.out.1, HY.out.2.1, .inr ⟨HN.out, rfl, fun j => T j ∨ (w.heap.size ≤ j ∧ j < wn.heap.size), ⟨_, HKR.out, own_base0 hO9, .inl HT.out.2.1, fun g hg => .inr (hlt9 g hg), fun z hz => ?_⟩, m5.mono (fun j _ e => by rw [e]; exact HT.out.2.1), fun j hj => hj.elim .inl (fun h => .inr h.1), fun j hj => hj.elim (fun h => Nat.lt_of_lt_of_le (HT.out.1 j h) hsz) (fun h => h.2)⟩⟩
      obtain ⟨z1, z2, z3⟩ := HRR.out z (List.mem_of_mem_eraseIdx hz)
      refine ⟨SlAt.mod z1 m5 (fun b o e => (z2 b o e).2.1), fun b o e => ⟨.inl (z2 b o e).1, (z2 b o e).2.1, fun e2 => ?_⟩, z3⟩
      have h1 := (hlt9 b e2).1
      have h2 := HT.out.1 b (z2 b o e).1
      omega
  · have HN := Lib.hid hno
    clear hno
    go_wp2_with fail
    go_ret
    exact .inl ⟨HN.out, rfl, hm⟩
/-- A row of roles that a pass has made. -/
def RowO (B : Nat) (l : List Role) (v : Value) : Land := fun T w => ∃ a c, v = .slice a l.length c ∧ SlOwn rcr 34 31 w B v l ∧ ∀ b, v.ownBlock = some b → T b
theorem goodRowO (B : Nat) (l : List Role) (v : Value) : Good (RowO B l v) where
  cl := fun T w w' ⟨a, c, e, h, ht⟩ hm => ⟨a, c, e, h.mod hm (fun b hb hn => hn (ht b hb)), ht⟩
  gr := fun T T' w hT ⟨a, c, e, h, ht⟩ => ⟨a, c, e, h, fun g hg => hT g (ht g hg)⟩
theorem app_roles {w : World} {B c : Nat} {q : List Role} {a : Option Addr} {T : Nat → Prop} (hs : RolesAt w a q) (hq : q.length ≤ 1000000) (hB : B ≤ w.heap.size) : ∃ v w', (Builtin.append_ #[32, 32] 32 #[.slice none 0 0, .slice a q.length c]).run Try.prog w = .ok v w' ∧ Mod T w w' ∧ RowO B q v (Grow T w w') w' := by
  obtain ⟨v, w', hap, hO, m, hn⟩ := SlOwn.append roleT (c := c) (SlOwn.nil (f := rcr) (n := 34) (E := 31) w B) hs (by simpa using hq) (by decide) hB 32
  rw [List.nil_append] at hO
  obtain ⟨a', c', e1, _⟩ := hO.at roleT
  refine ⟨v, w', hap, m.mono (fun _ _ e => by cases e), a', c', e1, hO, fun g hg => ?_⟩
  rcases hn with h | h
  · rw [hg] at h
    cases h
  · rw [hg] at h
    cases h
    exact .inr ⟨Nat.le_refl _, (hO.lt _ hg).2⟩
theorem bldQ (id : Int64) (l : List Role) (a : Option Addr) (c : Nat) (w : World) : (Instr.build 51 #[(0, .int .i64 id.toInt), (1, .int .i64 id.toInt), (2, .slice a l.length c)]).run Try.prog w = .ok (.agg (nq ⟨⟨id, id, l⟩, a, c⟩)) w := by
  kernel_rfl
set_option maxRecDepth 20000 in
theorem bsQ (y : Nq) (w : World) : (Instr.buildSlice 47 1 #[(0, .agg (nq y))]).run Try.prog w = .ok (.slice (some ⟨w.heap.size, 0, none⟩) 1 1) (w.alloc (.cells (nq y) 51)) := by
  obtain ⟨i0, z, hi, hz, hz1, hz2, hz3⟩ := nqT.info
  refine run_buildSlice w _ _ 1 _ _ i0 _ Try.underlying47 hi hz (by rw [hz1]; omega) (by rw [hz1]; omega) ?_
  rw [hz1]
  show Instr.fill _ _ [(0, Value.agg (nq y))] = _
  rw [fill_cons (off := 0) (n := 3) rfl (show ((Value.agg (nq y)).cells).size = 3 from nq_size _) (by simp)]
  show some (wr _ 0 _) = _
  rw [wr_whole _ _ (by simp [Value.cells, nq_size])]
  rfl
set_option maxRecDepth 20000 in
set_option maxHeartbeats 6400000 in
theorem qput_c {p : Nat} {L : List Nq} {T : Nat → Prop} {w : World} (h : RQ p L T w) (hT : ∀ i, T i → i < w.heap.size) (hL : L.length ≤ 900) (id : Int64) (a : Option Addr) (l : List Role) (c : Nat) (hl : RolesAt w a l) (hll : l.length ≤ 1000) (hid : ∀ y ∈ L, y.x.id ≠ id) : Calls Try.prog 18 #[ptrV p, .int .i64 id.toInt, .slice a l.length c] w fun e w' =>
    e = .returned (.int .i64 0) ∧ ∃ y T', y.x = ⟨id, chainR (rnsOf L) id l, l⟩ ∧ RQ p (L ++ [y]) T' w' ∧ Mod T w w' ∧ (∀ i, T' i → T i ∨ w.heap.size ≤ i) ∧ ∀ i, T' i → i < w'.heap.size := by
  have HH := Lib.hid h
  obtain ⟨v, kr, hO, hTp, hTv, hro⟩ := h
  have HT := Lib.hid (And.intro hT (And.intro hTp hTv))
  have HRR := Lib.hid hro
  obtain ⟨av, cv, rfl, hs, hav, _⟩ := hO.at nqT
  have HAV := Lib.hid hav
  clear hav
  have HO := Lib.hid hO
  have HS := Lib.hid hs
  have HLR := Lib.hid hl
  have HID := Lib.hid hid
  have HKR0 := Lib.hid kr
  have hb := bldQ id l
  clear hT hTp hTv hO hro hs hl hid
  go_enter Try.func18, Try.ntmps18
  go_wp2_with fail
  go_at_call 33
  refine (qat_c HH.out id (by omega)).mono ?_
  rintro e w2 ⟨hc, hm⟩
  have kr := hm.at0 kr
  rcases hc with ⟨i, y, rfl, hy, hide⟩ | ⟨rfl, hno⟩
  · exact absurd hide (HID.out y (List.mem_of_getElem? hy))
  · clear hno
    have sw2 := hm.size
    go_upto_region 3 with fail
    have Lkr := lt_size kr
    refine wp_gpass0 (T0 := fun _ => False) (K := fun _ _ => True) (κ := fun i => [0, 0, 0, 6, 0, 3, 4].getD i 0) (υ := fun i => [[], [], [], [], [], [], []].getD i []) [0, 1, 2, 3, 4, 5, 6] (by kernel_rfl) (by kernel_rfl) (Good.true).cl (trivial) (fun _ h => h.elim) ?_
    have gK := Good.true
    (refine TG.v0 (v := ?v20) (by simp only [List.getElem?_toArray, List.getElem?_cons_succ, List.getElem?_cons_zero]; rfl) rfl ?hw20 (fun w1 => ?hy20) ?hn20; (case hw20 => rfl); (case hy20 => (go_simp; (try with_reducible rfl))); (try simp only [Act.put, List.setIfInBounds_toArray, List.set_cons_zero, List.set_cons_succ]))
    (refine TG.v0 (v := ?v21) (by simp only [List.getElem?_toArray, List.getElem?_cons_succ, List.getElem?_cons_zero]; rfl) rfl ?hw21 (fun w1 => ?hy21) ?hn21; (case hw21 => rfl); (case hy21 => (go_simp; (try with_reducible rfl))); (try simp only [Act.put, List.setIfInBounds_toArray, List.set_cons_zero, List.set_cons_succ]))
    (refine TG.v0 (v := ?v22) (by simp only [List.getElem?_toArray, List.getElem?_cons_succ, List.getElem?_cons_zero]; rfl) rfl ?hw22 (fun w1 => ?hy22) ?hn22; (case hw22 => rfl); (case hy22 => (go_simp; (try with_reducible rfl))); (try simp only [Act.put, List.setIfInBounds_toArray, List.set_cons_zero, List.set_cons_succ]))
    (refine TG.appK (X := ?X23) (Y := ?Y23) (RowO w.heap.size l) (goodRowO w.heap.size l) (by simp only [List.getElem?_toArray, List.getElem?_cons_succ, List.getElem?_cons_zero]; rfl) rfl ?hw23 rfl ?hx23 ?hz23 (fun T wq kq ltq hSq ub => ?hy23) ?hn23; (case hw23 => rfl); (case hx23 => (simp only [Act.eval, Array.getD_eq_getD_getElem?, List.getElem?_toArray, List.getElem?_cons_succ, List.getElem?_cons_zero, Option.getD_some]; (try rfl))); (case hz23 => (simp only [Act.eval, Array.getD_eq_getD_getElem?, List.getElem?_toArray, List.getElem?_cons_succ, List.getElem?_cons_zero, Option.getD_some]; (try rfl))); (case hy23 => (have krq := hSq.at kr (by intro hT; first | exact hT | exact absurd hT (by assumption) | omega | (simp only at hT; omega)); exact app_roles (SlAt.mod0 (SlAt.mod0 HLR.out hm) hSq) (by omega) (Nat.le_trans sw2 hSq.size))); rintro v23 ⟨wI, TI, hI⟩; replace gK := (goodRowO w.heap.size l) v23; obtain ⟨ar, cr, rfl, _, _⟩ := hI.k; (try clear hI TI wI); (try simp only [Act.put, List.setIfInBounds_toArray, List.set_cons_zero, List.set_cons_succ]))
    (refine TG.build (v := ?v24) (ps := ?p24) (by simp only [List.getElem?_toArray, List.getElem?_cons_succ, List.getElem?_cons_zero]; rfl) rfl ?hw24 rfl ?hx24 (fun w1 => ?hy24) ?hn24; (case hw24 => rfl); (case hx24 => (simp only [List.map_toArray, List.map_cons, List.map_nil, Act.eval, Array.getD_eq_getD_getElem?, List.getElem?_toArray, List.getElem?_cons_succ, List.getElem?_cons_zero, Option.getD_some]; (try rfl))); (case hy24 => (rw [hb]; (try with_reducible rfl))); (try simp only [Act.put, List.setIfInBounds_toArray, List.set_cons_zero, List.set_cons_succ]))
    (refine TG.allocB (by simp only [List.getElem?_toArray, List.getElem?_cons_succ, List.getElem?_cons_zero]; rfl) rfl ?hw25 rfl rfl alNdQ (fun p7 hp7 _ => ?hn25); (case hw25 => rfl); (try simp only [Act.put, List.setIfInBounds_toArray, List.set_cons_zero, List.set_cons_succ]))
    (refine TG.storeB (d := ?d26) (T := ?T26) (y := ?y26) (p := ?p26) (b := ?b26) (v := ?v26) (by simp only [List.getElem?_toArray, List.getElem?_cons_succ, List.getElem?_cons_zero]; rfl) rfl ?hw26 ?hd26 ?hop26 ?hev26 ?hx26 ?hb26 ?htag26 (fun w1 hb1 => ?hy26) ?hn26; (case hw26 => rfl); (case hd26 => rfl); (case hop26 => rfl); (case hev26 => (simp only [Act.eval, Array.getD_eq_getD_getElem?, List.getElem?_toArray, List.getElem?_cons_succ, List.getElem?_cons_zero, Option.getD_some]; (try rfl))); (case hx26 => (simp only [Act.eval, Array.getD_eq_getD_getElem?, List.getElem?_toArray, List.getElem?_cons_succ, List.getElem?_cons_zero, Option.getD_some]; (try rfl))); (case hb26 => first | exact Bx.set_same _ _ _ | (simp only [Bx.set_same]; rfl)); (case htag26 => rfl); (case hy26 => (go_simp; (try first | with_reducible rfl | (rw [setCell_blk hb1]; rfl)))); (try simp only [Act.put, List.setIfInBounds_toArray, List.set_cons_zero, List.set_cons_succ]))
    refine TG.nil (fun w3 ⟨TR, hr⟩ => ?_)
    have kr := hr.mod.at kr (by intro hT; first | exact hT | exact absurd hT (by assumption) | omega | (simp only at hT; omega))
    have kp7 := hr.box p7 _ (by first | exact Bx.set_same _ _ _ | (simp only [Bx.set_same]; rfl)); dsimp only [Value.cells] at kp7; obtain ⟨gp7, nTp7, kp7⟩ := kp7
    clear gK
    have m3 := hm.then0 hr.mod
    obtain ⟨_, _, e1, hOr, hbT⟩ := hr.k
    obtain ⟨a9, c9, e9, hqr, har, _⟩ := hOr.at roleT
    have HRW : Hid (RolesAt w3 ar l ∧ ∀ b o, ar = some ⟨b, o, none⟩ → w.heap.size ≤ b ∧ b < w3.heap.size ∧ b ≠ p7) := Lib.hid (by
      injection e9 with q1 q2 q3
      subst q1
      refine ⟨hqr, fun b o e => ?_⟩
      have h1 := har _ e
      refine ⟨h1.1, h1.2.1, fun e2 => ?_⟩
      have h2 := hbT _ h1.2.2
      have h3 : TR b := h2
      rw [e2] at h3
      exact nTp7 h3)
    have HP7 : Hid (w.heap.size ≤ p7) := Lib.hid (by omega)
    have HNP : Hid (¬ (Value.slice av L.length cv).ownBlock = some p) := Lib.hid (by
      intro hp
      rcases HO.out.2 with ⟨e, _⟩ | ⟨g', cap, cur, e, _, hg', _⟩
      · rw [e] at hp
        cases hp
      · rw [e] at hp
        cases hp
        exact (ne_of_obj hg' HKR0.out (obj_ty (by decide))) rfl)
    clear hr e1 hOr hbT e9 hqr har hm
    go_wp2_with fail
    go_at_call 34
    refine (blocker_c (HH.out.mod0 m3) L.length (Nat.le_refl _) (by omega) a l c (SlAt.mod0 HLR.out m3) hll).mono ?_
    rintro e wb ⟨hc, hmb⟩
    have hlen : (rnsOf L).length = L.length := by unfold rnsOf; rw [List.length_map]
    rw [List.take_of_length_le (by omega)] at hc
    clear hlen
    have kr := hmb.at0 kr
    have kp7 := hmb.at0 kp7
    rcases hc with ⟨i, z, rfl, hi, hz, hcf, hlast⟩ | ⟨rfl, hno⟩
    · have HCH : Hid (z.x.ch = chainR (rnsOf L) id l) := Lib.hid (by unfold chainR; rw [hlast]; rfl)
      obtain ⟨g, o, C, U, fr, rfl, kl, _, hr1, _⟩ := nq_at (HS.out.mod0 (m3.then0 hmb)) hz
      have hdi : decide ((0 : Int) ≤ (i : Int)) = true := decide_eq_true (by omega)
      clear hz hcf hlast
      replace kp7 : wb.heap[p7]? = some (.cells #[.int .i64 id.toInt, .int .i64 id.toInt, .slice ar l.length cr] 51 (0, 0)) := kp7
      have kpr := ne_of_obj kp7 kr (obj_ty (by decide))
      have hg1 : g < w.heap.size := (HAV.out _ rfl).2.1
      have hg2 := HP7.out
      have hg3 : g ≠ p7 := by omega
      go_upto_region 6 with fail
      have Lkr := lt_size kr
      have Lkp7 := lt_size kp7
      have Lkl := lt_size kl
      refine wp_pass0 (C := fun _ _ _ => False) (κ := fun i => [0, 0, 0, 1, 0, 0, 0, 1, 0, 5].getD i 0) [0, 1, 2, 3, 4, 5, 6, 7, 8, 9] (by kernel_rfl) (by kernel_rfl) (fun _ _ d _ _ h => by cases d <;> first | exact h | exact absurd h (hP _ _ _)) ?_
      (refine TD.val0 (v := ?v27) (by simp only [List.getElem?_toArray, List.getElem?_cons_succ, List.getElem?_cons_zero]; rfl) rfl ?hw27 (fun w1 => ?hy27) ?hn27; (case hw27 => rfl); (case hy27 => (go_simp; (try with_reducible rfl))); (try simp only [Act.put, List.setIfInBounds_toArray, List.set_cons_zero, List.set_cons_succ]))
      (refine TD.val0 (v := ?v28) (by simp only [List.getElem?_toArray, List.getElem?_cons_succ, List.getElem?_cons_zero]; rfl) rfl ?hw28 (fun w1 => ?hy28) ?hn28; (case hw28 => rfl); (case hy28 => (go_simp; (try with_reducible rfl))); (try simp only [Act.put, List.setIfInBounds_toArray, List.set_cons_zero, List.set_cons_succ]))
      (refine TD.val0 (v := ?v29) (by simp only [List.getElem?_toArray, List.getElem?_cons_succ, List.getElem?_cons_zero]; rfl) rfl ?hw29 (fun w1 => ?hy29) ?hn29; (case hw29 => rfl); (case hy29 => (go_simp; (try with_reducible rfl))); (try simp only [Act.put, List.setIfInBounds_toArray, List.set_cons_zero, List.set_cons_succ]))
      (refine TD.load (v := ?v30) (p := ?p30) (Mod.refl _ _) (by simp only [List.getElem?_toArray, List.getElem?_cons_succ, List.getElem?_cons_zero]; rfl) rfl ?hw30 rfl ?hx30 (fun wq hSq => ?hy30) ?hn30; (case hw30 => rfl); (case hx30 => (simp only [Act.eval, Array.getD_eq_getD_getElem?, List.getElem?_toArray, List.getElem?_cons_succ, List.getElem?_cons_zero, Option.getD_some]; (try rfl))); (case hy30 => (have krq := hSq.at kr (fun h => h); have kp7q := hSq.at kp7 (fun h => h); have klq := hSq.at kl (fun h => h); go_simp; (try with_reducible rfl))); (try simp only [Act.put, List.setIfInBounds_toArray, List.set_cons_zero, List.set_cons_succ]))
      (refine TD.val0 (v := ?v31) (by simp only [List.getElem?_toArray, List.getElem?_cons_succ, List.getElem?_cons_zero]; rfl) rfl ?hw31 (fun w1 => ?hy31) ?hn31; (case hw31 => rfl); (case hy31 => (go_simp; (try with_reducible rfl))); (try simp only [Act.put, List.setIfInBounds_toArray, List.set_cons_zero, List.set_cons_succ]))
      (refine TD.val0 (v := ?v32) (by simp only [List.getElem?_toArray, List.getElem?_cons_succ, List.getElem?_cons_zero]; rfl) rfl ?hw32 (fun w1 => ?hy32) ?hn32; (case hw32 => rfl); (case hy32 => (go_simp; (try with_reducible rfl))); (try simp only [Act.put, List.setIfInBounds_toArray, List.set_cons_zero, List.set_cons_succ]))
      (refine TD.val0 (v := ?v33) (by simp only [List.getElem?_toArray, List.getElem?_cons_succ, List.getElem?_cons_zero]; rfl) rfl ?hw33 (fun w1 => ?hy33) ?hn33; (case hw33 => rfl); (case hy33 => (go_simp; (try with_reducible rfl))); (try simp only [Act.put, List.setIfInBounds_toArray, List.set_cons_zero, List.set_cons_succ]))
      (refine TD.load (v := ?v34) (p := ?p34) (Mod.refl _ _) (by simp only [List.getElem?_toArray, List.getElem?_cons_succ, List.getElem?_cons_zero]; rfl) rfl ?hw34 rfl ?hx34 (fun wq hSq => ?hy34) ?hn34; (case hw34 => rfl); (case hx34 => (simp only [Act.eval, Array.getD_eq_getD_getElem?, List.getElem?_toArray, List.getElem?_cons_succ, List.getElem?_cons_zero, Option.getD_some]; (try rfl))); (case hy34 => (have krq := hSq.at kr (fun h => h); have kp7q := hSq.at kp7 (fun h => h); have klq := hSq.at kl (fun h => h); go_simp; (try with_reducible rfl))); (try simp only [Act.put, List.setIfInBounds_toArray, List.set_cons_zero, List.set_cons_succ]))
      (refine TD.val0 (v := ?v35) (by simp only [List.getElem?_toArray, List.getElem?_cons_succ, List.getElem?_cons_zero]; rfl) rfl ?hw35 (fun w1 => ?hy35) ?hn35; (case hw35 => rfl); (case hy35 => (go_simp; (try with_reducible rfl))); (try simp only [Act.put, List.setIfInBounds_toArray, List.set_cons_zero, List.set_cons_succ]))
      refine TD.eff (by simp only [List.getElem?_toArray, List.getElem?_cons_succ, List.getElem?_cons_zero]; rfl) rfl (fun wE hr => ?_)
      have kr := hr.mod.at0 kr
      have kp7 := hr.mod.at0 kp7
      have kl := hr.mod.at0 kl
      have mE := hr.mod
      (refine eff_store (X := ?X36) (Y := ?Y36) (w' := ?w36) (by simp only [List.getElem?_toArray, List.getElem?_cons_succ, List.getElem?_cons_zero]; rfl) ?hw36 rfl ?hx36 ?hz36 ?hy36 ?hn36; (case hw36 => rfl); (case hx36 => (simp only [Act.eval, Array.getD_eq_getD_getElem?, List.getElem?_toArray, List.getElem?_cons_succ, List.getElem?_cons_zero, Option.getD_some]; (try rfl))); (case hz36 => (simp only [Act.eval, Array.getD_eq_getD_getElem?, List.getElem?_toArray, List.getElem?_cons_succ, List.getElem?_cons_zero, Option.getD_some]; (try rfl))); (case hy36 => (go_simp; (try with_reducible rfl))))
      (first | refine TE.nil_set kp7 (fun w4 kp7 mS => ?_) | refine TE.nil_setCell kp7 (fun w4 kp7 mS => ?_))
      (try simp only [Array.setIfInBounds, List.setIfInBounds_toArray, List.set_cons_zero, List.set_cons_succ] at kp7)
      have kr := mS.at_ne kr (by omega)
      have kl := mS.at_ne kl (by omega)
      have mx : Mod (fun i => i = p7) w3 w4 := ((hmb.then0 mE).mono (fun _ _ h => h.elim)).then mS (fun _ _ e => e)
      replace kp7 : w4.heap[p7]? = some (.cells (nq ⟨⟨id, z.x.ch, l⟩, ar, cr⟩) 51 (0, 0)) := kp7
      clear mS mE hmb kl kpr hg1 hg2 hg3
      have hy0 : RolesAt w4 ar l := SlAt.mod HRW.out.1 mx (fun b o e h => (HRW.out.2 b o e).2.2 h)
      have HY0 := Lib.hid hy0
      have hOw := (HO.out.mod0 m3).mod mx (fun b hb e => by have h1 := (HO.out.lt b hb).2; have h2 := HP7.out; omega)
      have hlo := HO.out.lt
      have hnp : ¬ (Value.slice (some ⟨g, o, none⟩) L.length cv).ownBlock = some p := HNP.out
      have hnp7 : ¬ (Value.slice (some ⟨g, o, none⟩) L.length cv).ownBlock = some p7 := fun e => by have h1 := (hlo p7 e).2; have h2 := HP7.out; omega
      have HOw := Lib.hid hOw
      have HKP := Lib.hid hlo
      have hbs := bsQ ⟨⟨id, z.x.ch, l⟩, ar, cr⟩
      have HM4 := Lib.hid ((m3.mono (fun _ _ h => h.elim) : Mod (fun i => i = p7) w w3).then mx (fun _ _ e => e))
      have hpw := HT.out.1 p HT.out.2.1
      have hp7w := HP7.out
      have sw4 : w3.heap.size ≤ w4.heap.size := mx.size
      have sw3 := m3.size
      clear hy0 hOw hlo mx m3
      go_upto_region 7 with fail
      have Lkr := lt_size kr
      have Lkp7 := lt_size kp7
      refine wp_epass (T0 := fun bq => (Value.slice (some ⟨g, o, none⟩) L.length cv).ownBlock = some bq) (K := OwnL 0 L (.slice (some ⟨g, o, none⟩) L.length cv)) (κ := fun i => [0, 0, 0, 0, 0, 0, 3, 6, 0, 0, 6].getD i 0) (υ := fun i => [[], [], [], [], [], [], [], [43], [], [], []].getD i []) [0, 1, 2, 3, 4, 5, 6, 7, 8, 9] [10] (by kernel_rfl) (by kernel_rfl) (goodOwn 0 L (.slice (some ⟨g, o, none⟩) L.length cv)).cl (⟨HOw.out, fun bq hg => hg⟩) (fun i hi => (HOw.out.lt i hi).2) ?_
      have gK := goodOwn 0 L (.slice (some ⟨g, o, none⟩) L.length cv)
      (refine TG.v0 (v := ?v37) (by simp only [List.getElem?_toArray, List.getElem?_cons_succ, List.getElem?_cons_zero]; rfl) rfl ?hw37 (fun w1 => ?hy37) ?hn37; (case hw37 => rfl); (case hy37 => (go_simp; (try with_reducible rfl))); (try simp only [Act.put, List.setIfInBounds_toArray, List.set_cons_zero, List.set_cons_succ]))
      (refine TG.v0 (v := ?v38) (by simp only [List.getElem?_toArray, List.getElem?_cons_succ, List.getElem?_cons_zero]; rfl) rfl ?hw38 (fun w1 => ?hy38) ?hn38; (case hw38 => rfl); (case hy38 => (go_simp; (try with_reducible rfl))); (try simp only [Act.put, List.setIfInBounds_toArray, List.set_cons_zero, List.set_cons_succ]))
      (refine TG.v0 (v := ?v39) (by simp only [List.getElem?_toArray, List.getElem?_cons_succ, List.getElem?_cons_zero]; rfl) rfl ?hw39 (fun w1 => ?hy39) ?hn39; (case hw39 => rfl); (case hy39 => (go_simp; (try with_reducible rfl))); (try simp only [Act.put, List.setIfInBounds_toArray, List.set_cons_zero, List.set_cons_succ]))
      (refine TG.v0 (v := ?v40) (by simp only [List.getElem?_toArray, List.getElem?_cons_succ, List.getElem?_cons_zero]; rfl) rfl ?hw40 (fun w1 => ?hy40) ?hn40; (case hw40 => rfl); (case hy40 => (go_simp; (try with_reducible rfl))); (try simp only [Act.put, List.setIfInBounds_toArray, List.set_cons_zero, List.set_cons_succ]))
      (refine TG.load (v := ?v41) (p := ?p41) (by simp only [List.getElem?_toArray, List.getElem?_cons_succ, List.getElem?_cons_zero]; rfl) rfl ?hw41 rfl ?hx41 (fun wq hSq => ?hy41) ?hn41; (case hw41 => rfl); (case hx41 => (simp only [Act.eval, Array.getD_eq_getD_getElem?, List.getElem?_toArray, List.getElem?_cons_succ, List.getElem?_cons_zero, Option.getD_some]; (try rfl))); (case hy41 => (have krq := hSq.at kr (by intro hT; first | exact hT | exact absurd hT (by assumption) | omega | (simp only at hT; omega)); have kp7q := hSq.at kp7 (by intro hT; first | exact hT | exact absurd hT (by assumption) | omega | (simp only at hT; omega)); go_simp; (try with_reducible rfl))); (try simp only [Act.put, List.setIfInBounds_toArray, List.set_cons_zero, List.set_cons_succ]))
      (refine TG.load (v := ?v42) (p := ?p42) (by simp only [List.getElem?_toArray, List.getElem?_cons_succ, List.getElem?_cons_zero]; rfl) rfl ?hw42 rfl ?hx42 (fun wq hSq => ?hy42) ?hn42; (case hw42 => rfl); (case hx42 => (simp only [Act.eval, Array.getD_eq_getD_getElem?, List.getElem?_toArray, List.getElem?_cons_succ, List.getElem?_cons_zero, Option.getD_some]; (try rfl))); (case hy42 => (have krq := hSq.at kr (by intro hT; first | exact hT | exact absurd hT (by assumption) | omega | (simp only at hT; omega)); have kp7q := hSq.at kp7 (by intro hT; first | exact hT | exact absurd hT (by assumption) | omega | (simp only at hT; omega)); go_simp; (try with_reducible rfl))); (try simp only [Act.put, List.setIfInBounds_toArray, List.set_cons_zero, List.set_cons_succ]))
      (refine TG.bslice (by simp only [List.getElem?_toArray, List.getElem?_cons_succ, List.getElem?_cons_zero]; rfl) rfl ?hw43 rfl rfl ?hx43 hbs (fun p43 hp43 _ => ?hn43); (case hw43 => rfl); (case hx43 => (simp only [List.map_toArray, List.map_cons, List.map_nil, Act.eval, Array.getD_eq_getD_getElem?, List.getElem?_toArray, List.getElem?_cons_succ, List.getElem?_cons_zero, Option.getD_some]; (try rfl))); (try simp only [Act.put, List.setIfInBounds_toArray, List.set_cons_zero, List.set_cons_succ]))
      (refine TG.appK (X := ?X44) (Y := ?Y44) (OwnL 0 (L ++ [⟨⟨id, z.x.ch, l⟩, ar, cr⟩])) (goodOwn 0 (L ++ [⟨⟨id, z.x.ch, l⟩, ar, cr⟩])) (by simp only [List.getElem?_toArray, List.getElem?_cons_succ, List.getElem?_cons_zero]; rfl) rfl ?hw44 rfl ?hx44 ?hz44 (fun T wq kq ltq hSq ub => ?hy44) ?hn44; (case hw44 => rfl); (case hx44 => (simp only [Act.eval, Array.getD_eq_getD_getElem?, List.getElem?_toArray, List.getElem?_cons_succ, List.getElem?_cons_zero, Option.getD_some]; (try rfl))); (case hz44 => (simp only [Act.eval, Array.getD_eq_getD_getElem?, List.getElem?_toArray, List.getElem?_cons_succ, List.getElem?_cons_zero, Option.getD_some]; (try rfl))); (case hy44 => (have krq := hSq.at kr (by intro hT; first | exact hT | exact absurd hT (by assumption) | omega | (simp only at hT; omega)); have kp7q := hSq.at kp7 (by intro hT; first | exact hT | exact absurd hT (by assumption) | omega | (simp only at hT; omega)); have kp43 := ub.box (p := p43) (by first | exact Bx.set_same _ _ _ | (simp only [Bx.set_same]; rfl)) (by first | decide | exact List.mem_singleton.2 rfl | simp); dsimp only [Value.cells] at kp43; have nUp43 := (ub p43 _ (by first | exact Bx.set_same _ _ _ | (simp only [Bx.set_same]; rfl)) (by first | decide | exact List.mem_singleton.2 rfl | simp)).1; exact app_own (c := 1) (q := [⟨⟨id, z.x.ch, l⟩, ar, cr⟩]) kq (SlAt.one kp43 _ rfl rfl) (by simp only [List.length_singleton]; omega) (Nat.zero_le _))); rintro v44 ⟨wI, TI, hI⟩; replace gK := (goodOwn 0 (L ++ [⟨⟨id, z.x.ch, l⟩, ar, cr⟩])) v44; skip; (try clear hI TI wI); (try simp only [Act.put, List.setIfInBounds_toArray, List.set_cons_zero, List.set_cons_succ]))
      (refine TG.v0 (v := ?v45) (by simp only [List.getElem?_toArray, List.getElem?_cons_succ, List.getElem?_cons_zero]; rfl) rfl ?hw45 (fun w1 => ?hy45) ?hn45; (case hw45 => rfl); (case hy45 => (go_simp; (try with_reducible rfl))); (try simp only [Act.put, List.setIfInBounds_toArray, List.set_cons_zero, List.set_cons_succ]))
      (refine TG.v0 (v := ?v46) (by simp only [List.getElem?_toArray, List.getElem?_cons_succ, List.getElem?_cons_zero]; rfl) rfl ?hw46 (fun w1 => ?hy46) ?hn46; (case hw46 => rfl); (case hy46 => (go_simp; (try with_reducible rfl))); (try simp only [Act.put, List.setIfInBounds_toArray, List.set_cons_zero, List.set_cons_succ]))
      refine TG.nil (fun w5 ⟨TR, hr⟩ => ?_)
      have kr := hr.mod.at kr (by intro hT; first | exact hT | exact absurd hT (by assumption) | omega | (simp only at hT; omega))
      have kp7 := hr.mod.at kp7 (by intro hT; first | exact hT | exact absurd hT (by assumption) | omega | (simp only at hT; omega))
      have kp43 := hr.box p43 _ (by first | exact Bx.set_same _ _ _ | (simp only [Bx.set_same]; rfl)); dsimp only [Value.cells] at kp43; obtain ⟨gp43, nTp43, kp43⟩ := kp43
      clear gK
      have hO6 := hr.k
      have hold := hr.old
      have hm5 := hr.mod
      obtain ⟨a6, c6, hv6, _⟩ := hO6.1.at nqT
      generalize hn6 : (L ++ [(⟨⟨id, z.x.ch, l⟩, ar, cr⟩ : Nq)]).length = n6 at hv6
      subst hv6
      have HO6 := Lib.hid hO6
      have HOLD : Hid (∀ b, (Value.slice a6 n6 c6).ownBlock = some b → (b < w4.heap.size → (Value.slice (some ⟨g, o, none⟩) L.length cv).ownBlock = some b) ∧ b < w5.heap.size) := Lib.hid (fun b hb => ⟨fun hlt => hold b hlt (hO6.2 b hb), (hO6.1.lt b hb).2⟩)
      have HM5 := Lib.hid hm5
      clear hO6 hold hm5 hr hn6 hbs hnp7
      refine TE.step (by simp only [List.getElem?_toArray, List.getElem?_cons_succ, List.getElem?_cons_zero]; rfl) rfl ?_
      (refine eff_store (X := ?X47) (Y := ?Y47) (w' := ?w47) (by simp only [List.getElem?_toArray, List.getElem?_cons_succ, List.getElem?_cons_zero]; rfl) ?hw47 rfl ?hx47 ?hz47 ?hy47 ?hn47; (case hw47 => rfl); (case hx47 => (simp only [Act.eval, Array.getD_eq_getD_getElem?, List.getElem?_toArray, List.getElem?_cons_succ, List.getElem?_cons_zero, Option.getD_some]; (try rfl))); (case hz47 => (simp only [Act.eval, Array.getD_eq_getD_getElem?, List.getElem?_toArray, List.getElem?_cons_succ, List.getElem?_cons_zero, Option.getD_some]; (try rfl))); (case hy47 => (go_simp; (try with_reducible rfl))))
      (first | refine TE.nil_set kr (fun wn kr mS => ?_) | refine TE.nil_setCell kr (fun wn kr mS => ?_))
      (try simp only [Array.setIfInBounds, List.setIfInBounds_toArray, List.set_cons_zero, List.set_cons_succ] at kr)
      (try simp only [Act.put, List.setIfInBounds_toArray, List.set_cons_zero, List.set_cons_succ])
      replace kr : wn.heap[p]? = some (.cells #[.slice a6 n6 c6] 49 (0, 0)) := kr
      have HKR := Lib.hid kr
      have HMS := Lib.hid mS
      clear mS kr
      go_wp2_with fail
      go_ret
      refine ⟨rfl, ⟨⟨id, z.x.ch, l⟩, ar, cr⟩, fun j => T j ∨ (w.heap.size ≤ j ∧ j < wn.heap.size), by rw [← HCH.out], ⟨_, HKR.out, HO6.out.1.mod HMS.out (fun b hb e => ?_), .inl HT.out.2.1, fun b hb => ?_, fun z hz => ?_⟩, ?_, fun j hj => hj.elim .inl (fun h => .inr h.1), fun j hj => hj.elim (fun h => ?_) (fun h => h.2)⟩
      · subst e
        exact hnp ((HOLD.out b hb).1 (by omega))
      · have h1 := HOLD.out b hb
        have h2 := HMS.out.size
        by_cases h3 : b < w4.heap.size
        · exact .inl (HT.out.2.2 b (h1.1 h3))
        · exact .inr ⟨by omega, by omega⟩
      · rcases List.mem_append.1 hz with hz | hz
        · obtain ⟨z1, z2, z3⟩ := HRR.out z hz
          refine ⟨SlAt.mod (SlAt.mod (SlAt.mod z1 HM4.out (fun b o e h => ?_)) HM5.out (fun b o e h => (z2 b o e).2.2 h)) HMS.out (fun b o e h => (z2 b o e).2.1 h), fun b o e => ⟨.inl (z2 b o e).1, (z2 b o e).2.1, fun e2 => ?_⟩, z3⟩
          · have h1 := HT.out.1 b (z2 b o e).1
            omega
          · have h1 := HT.out.1 b (z2 b o e).1
            exact (z2 b o e).2.2 ((HOLD.out b e2).1 (by omega))
        · rcases List.mem_singleton.1 hz with rfl
          have h5 := HM5.out.size
          have h6 := HMS.out.size
          refine ⟨SlAt.mod (SlAt.mod HY0.out HM5.out (fun b o e h => ?_)) HMS.out (fun b o e h => ?_), fun b o e => ⟨.inr ?_, ?_, fun e2 => ?_⟩, hll⟩
          · have h1 := (HRW.out.2 b o e).1
            have h2 := (HKP.out b h).2
            omega
          · have h1 := (HRW.out.2 b o e).1
            omega
          · have h1 := HRW.out.2 b o e
            exact ⟨h1.1, by omega⟩
          · have h1 := (HRW.out.2 b o e).1
            omega
          · have h1 := HRW.out.2 b o e
            have h2 := (HKP.out b ((HOLD.out b e2).1 (by omega))).2
            omega
      · refine (((HM4.out.mono (fun i hi e => by omega) : Mod T w w4)).then HM5.out (fun i hi e => HT.out.2.2 i e)).then HMS.out (fun i hi e => ?_)
        subst e
        exact HT.out.2.1
      · have h1 := HT.out.1 j h
        have h5 := HM5.out.size
        have h6 := HMS.out.size
        omega
    · obtain ⟨w4, rfl⟩ : ∃ x : World, x = wb := ⟨_, rfl⟩
      have HCH : Hid (id = chainR (rnsOf L) id l) := Lib.hid (by
        rcases chainR_of (rnsOf L) id l with ⟨h1, _⟩ | ⟨x, hx, _, h2⟩
        · exact h1.symm
        · have := List.any_eq_false.1 hno x hx
          rw [h2] at this
          exact absurd rfl this)
      have mx : Mod (fun i => i = p7) w3 w4 := hmb.mono (fun _ _ h => h.elim)
      clear hno hmb
      have hy0 : RolesAt w4 ar l := SlAt.mod HRW.out.1 mx (fun b o e h => (HRW.out.2 b o e).2.2 h)
      have HY0 := Lib.hid hy0
      have hOw := (HO.out.mod0 m3).mod mx (fun b hb e => by have h1 := (HO.out.lt b hb).2; have h2 := HP7.out; omega)
      have hlo := HO.out.lt
      have hnp : ¬ (Value.slice av L.length cv).ownBlock = some p := HNP.out
      have hnp7 : ¬ (Value.slice av L.length cv).ownBlock = some p7 := fun e => by have h1 := (hlo p7 e).2; have h2 := HP7.out; omega
      have HOw := Lib.hid hOw
      have HKP := Lib.hid hlo
      have hbs := bsQ ⟨⟨id, id, l⟩, ar, cr⟩
      have HM4 := Lib.hid ((m3.mono (fun _ _ h => h.elim) : Mod (fun i => i = p7) w w3).then mx (fun _ _ e => e))
      have hpw := HT.out.1 p HT.out.2.1
      have hp7w := HP7.out
      have sw4 : w3.heap.size ≤ w4.heap.size := mx.size
      have sw3 := m3.size
      clear hy0 hOw hlo mx m3
      go_upto_region 7 with fail
      have Lkr := lt_size kr
      have Lkp7 := lt_size kp7
      refine wp_epass (T0 := fun bq => (Value.slice av L.length cv).ownBlock = some bq) (K := OwnL 0 L (.slice av L.length cv)) (κ := fun i => [0, 0, 0, 0, 0, 0, 3, 6, 0, 0, 6].getD i 0) (υ := fun i => [[], [], [], [], [], [], [], [43], [], [], []].getD i []) [0, 1, 2, 3, 4, 5, 6, 7, 8, 9] [10] (by kernel_rfl) (by kernel_rfl) (goodOwn 0 L (.slice av L.length cv)).cl (⟨HOw.out, fun bq hg => hg⟩) (fun i hi => (HOw.out.lt i hi).2) ?_
      have gK := goodOwn 0 L (.slice av L.length cv)
      (refine TG.v0 (v := ?v48) (by simp only [List.getElem?_toArray, List.getElem?_cons_succ, List.getElem?_cons_zero]; rfl) rfl ?hw48 (fun w1 => ?hy48) ?hn48; (case hw48 => rfl); (case hy48 => (go_simp; (try with_reducible rfl))); (try simp only [Act.put, List.setIfInBounds_toArray, List.set_cons_zero, List.set_cons_succ]))
      (refine TG.v0 (v := ?v49) (by simp only [List.getElem?_toArray, List.getElem?_cons_succ, List.getElem?_cons_zero]; rfl) rfl ?hw49 (fun w1 => ?hy49) ?hn49; (case hw49 => rfl); (case hy49 => (go_simp; (try with_reducible rfl))); (try simp only [Act.put, List.setIfInBounds_toArray, List.set_cons_zero, List.set_cons_succ]))
      (refine TG.v0 (v := ?v50) (by simp only [List.getElem?_toArray, List.getElem?_cons_succ, List.getElem?_cons_zero]; rfl) rfl ?hw50 (fun w1 => ?hy50) ?hn50; (case hw50 => rfl); (case hy50 => (go_simp; (try with_reducible rfl))); (try simp only [Act.put, List.setIfInBounds_toArray, List.set_cons_zero, List.set_cons_succ]))
      (refine TG.v0 (v := ?v51) (by simp only [List.getElem?_toArray, List.getElem?_cons_succ, List.getElem?_cons_zero]; rfl) rfl ?hw51 (fun w1 => ?hy51) ?hn51; (case hw51 => rfl); (case hy51 => (go_simp; (try with_reducible rfl))); (try simp only [Act.put, List.setIfInBounds_toArray, List.set_cons_zero, List.set_cons_succ]))
      (refine TG.load (v := ?v52) (p := ?p52) (by simp only [List.getElem?_toArray, List.getElem?_cons_succ, List.getElem?_cons_zero]; rfl) rfl ?hw52 rfl ?hx52 (fun wq hSq => ?hy52) ?hn52; (case hw52 => rfl); (case hx52 => (simp only [Act.eval, Array.getD_eq_getD_getElem?, List.getElem?_toArray, List.getElem?_cons_succ, List.getElem?_cons_zero, Option.getD_some]; (try rfl))); (case hy52 => (have krq := hSq.at kr (by intro hT; first | exact hT | exact absurd hT (by assumption) | omega | (simp only at hT; omega)); have kp7q := hSq.at kp7 (by intro hT; first | exact hT | exact absurd hT (by assumption) | omega | (simp only at hT; omega)); go_simp; (try with_reducible rfl))); (try simp only [Act.put, List.setIfInBounds_toArray, List.set_cons_zero, List.set_cons_succ]))
      (refine TG.load (v := ?v53) (p := ?p53) (by simp only [List.getElem?_toArray, List.getElem?_cons_succ, List.getElem?_cons_zero]; rfl) rfl ?hw53 rfl ?hx53 (fun wq hSq => ?hy53) ?hn53; (case hw53 => rfl); (case hx53 => (simp only [Act.eval, Array.getD_eq_getD_getElem?, List.getElem?_toArray, List.getElem?_cons_succ, List.getElem?_cons_zero, Option.getD_some]; (try rfl))); (case hy53 => (have krq := hSq.at kr (by intro hT; first | exact hT | exact absurd hT (by assumption) | omega | (simp only at hT; omega)); have kp7q := hSq.at kp7 (by intro hT; first | exact hT | exact absurd hT (by assumption) | omega | (simp only at hT; omega)); go_simp; (try with_reducible rfl))); (try simp only [Act.put, List.setIfInBounds_toArray, List.set_cons_zero, List.set_cons_succ]))
      (refine TG.bslice (by simp only [List.getElem?_toArray, List.getElem?_cons_succ, List.getElem?_cons_zero]; rfl) rfl ?hw54 rfl rfl ?hx54 hbs (fun p43 hp43 _ => ?hn54); (case hw54 => rfl); (case hx54 => (simp only [List.map_toArray, List.map_cons, List.map_nil, Act.eval, Array.getD_eq_getD_getElem?, List.getElem?_toArray, List.getElem?_cons_succ, List.getElem?_cons_zero, Option.getD_some]; (try rfl))); (try simp only [Act.put, List.setIfInBounds_toArray, List.set_cons_zero, List.set_cons_succ]))
      (refine TG.appK (X := ?X55) (Y := ?Y55) (OwnL 0 (L ++ [⟨⟨id, id, l⟩, ar, cr⟩])) (goodOwn 0 (L ++ [⟨⟨id, id, l⟩, ar, cr⟩])) (by simp only [List.getElem?_toArray, List.getElem?_cons_succ, List.getElem?_cons_zero]; rfl) rfl ?hw55 rfl ?hx55 ?hz55 (fun T wq kq ltq hSq ub => ?hy55) ?hn55; (case hw55 => rfl); (case hx55 => (simp only [Act.eval, Array.getD_eq_getD_getElem?, List.getElem?_toArray, List.getElem?_cons_succ, List.getElem?_cons_zero, Option.getD_some]; (try rfl))); (case hz55 => (simp only [Act.eval, Array.getD_eq_getD_getElem?, List.getElem?_toArray, List.getElem?_cons_succ, List.getElem?_cons_zero, Option.getD_some]; (try rfl))); (case hy55 => (have krq := hSq.at kr (by intro hT; first | exact hT | exact absurd hT (by assumption) | omega | (simp only at hT; omega)); have kp7q := hSq.at kp7 (by intro hT; first | exact hT | exact absurd hT (by assumption) | omega | (simp only at hT; omega)); have kp43 := ub.box (p := p43) (by first | exact Bx.set_same _ _ _ | (simp only [Bx.set_same]; rfl)) (by first | decide | exact List.mem_singleton.2 rfl | simp); dsimp only [Value.cells] at kp43; have nUp43 := (ub p43 _ (by first | exact Bx.set_same _ _ _ | (simp only [Bx.set_same]; rfl)) (by first | decide | exact List.mem_singleton.2 rfl | simp)).1; exact app_own (c := 1) (q := [⟨⟨id, id, l⟩, ar, cr⟩]) kq (SlAt.one kp43 _ rfl rfl) (by simp only [List.length_singleton]; omega) (Nat.zero_le _))); rintro v55 ⟨wI, TI, hI⟩; replace gK := (goodOwn 0 (L ++ [⟨⟨id, id, l⟩, ar, cr⟩])) v55; skip; (try clear hI TI wI); (try simp only [Act.put, List.setIfInBounds_toArray, List.set_cons_zero, List.set_cons_succ]))
      (refine TG.v0 (v := ?v56) (by simp only [List.getElem?_toArray, List.getElem?_cons_succ, List.getElem?_cons_zero]; rfl) rfl ?hw56 (fun w1 => ?hy56) ?hn56; (case hw56 => rfl); (case hy56 => (go_simp; (try with_reducible rfl))); (try simp only [Act.put, List.setIfInBounds_toArray, List.set_cons_zero, List.set_cons_succ]))
      (refine TG.v0 (v := ?v57) (by simp only [List.getElem?_toArray, List.getElem?_cons_succ, List.getElem?_cons_zero]; rfl) rfl ?hw57 (fun w1 => ?hy57) ?hn57; (case hw57 => rfl); (case hy57 => (go_simp; (try with_reducible rfl))); (try simp only [Act.put, List.setIfInBounds_toArray, List.set_cons_zero, List.set_cons_succ]))
      refine TG.nil (fun w5 ⟨TR, hr⟩ => ?_)
      have kr := hr.mod.at kr (by intro hT; first | exact hT | exact absurd hT (by assumption) | omega | (simp only at hT; omega))
      have kp7 := hr.mod.at kp7 (by intro hT; first | exact hT | exact absurd hT (by assumption) | omega | (simp only at hT; omega))
      have kp43 := hr.box p43 _ (by first | exact Bx.set_same _ _ _ | (simp only [Bx.set_same]; rfl)); dsimp only [Value.cells] at kp43; obtain ⟨gp43, nTp43, kp43⟩ := kp43
      clear gK
      have hO6 := hr.k
      have hold := hr.old
      have hm5 := hr.mod
      obtain ⟨a6, c6, hv6, _⟩ := hO6.1.at nqT
      generalize hn6 : (L ++ [(⟨⟨id, id, l⟩, ar, cr⟩ : Nq)]).length = n6 at hv6
      subst hv6
      have HO6 := Lib.hid hO6
      have HOLD : Hid (∀ b, (Value.slice a6 n6 c6).ownBlock = some b → (b < w4.heap.size → (Value.slice av L.length cv).ownBlock = some b) ∧ b < w5.heap.size) := Lib.hid (fun b hb => ⟨fun hlt => hold b hlt (hO6.2 b hb), (hO6.1.lt b hb).2⟩)
      have HM5 := Lib.hid hm5
      clear hO6 hold hm5 hr hn6 hbs hnp7
      refine TE.step (by simp only [List.getElem?_toArray, List.getElem?_cons_succ, List.getElem?_cons_zero]; rfl) rfl ?_
      (refine eff_store (X := ?X58) (Y := ?Y58) (w' := ?w58) (by simp only [List.getElem?_toArray, List.getElem?_cons_succ, List.getElem?_cons_zero]; rfl) ?hw58 rfl ?hx58 ?hz58 ?hy58 ?hn58; (case hw58 => rfl); (case hx58 => (simp only [Act.eval, Array.getD_eq_getD_getElem?, List.getElem?_toArray, List.getElem?_cons_succ, List.getElem?_cons_zero, Option.getD_some]; (try rfl))); (case hz58 => (simp only [Act.eval, Array.getD_eq_getD_getElem?, List.getElem?_toArray, List.getElem?_cons_succ, List.getElem?_cons_zero, Option.getD_some]; (try rfl))); (case hy58 => (go_simp; (try with_reducible rfl))))
      (first | refine TE.nil_set kr (fun wn kr mS => ?_) | refine TE.nil_setCell kr (fun wn kr mS => ?_))
      (try simp only [Array.setIfInBounds, List.setIfInBounds_toArray, List.set_cons_zero, List.set_cons_succ] at kr)
      (try simp only [Act.put, List.setIfInBounds_toArray, List.set_cons_zero, List.set_cons_succ])
      replace kr : wn.heap[p]? = some (.cells #[.slice a6 n6 c6] 49 (0, 0)) := kr
      have HKR := Lib.hid kr
      have HMS := Lib.hid mS
      clear mS kr
      go_wp2_with fail
      go_ret
      refine ⟨rfl, ⟨⟨id, id, l⟩, ar, cr⟩, fun j => T j ∨ (w.heap.size ≤ j ∧ j < wn.heap.size), by rw [← HCH.out], ⟨_, HKR.out, HO6.out.1.mod HMS.out (fun b hb e => ?_), .inl HT.out.2.1, fun b hb => ?_, fun z hz => ?_⟩, ?_, fun j hj => hj.elim .inl (fun h => .inr h.1), fun j hj => hj.elim (fun h => ?_) (fun h => h.2)⟩
      · subst e
        exact hnp ((HOLD.out b hb).1 (by omega))
      · have h1 := HOLD.out b hb
        have h2 := HMS.out.size
        by_cases h3 : b < w4.heap.size
        · exact .inl (HT.out.2.2 b (h1.1 h3))
        · exact .inr ⟨by omega, by omega⟩
      · rcases List.mem_append.1 hz with hz | hz
        · obtain ⟨z1, z2, z3⟩ := HRR.out z hz
          refine ⟨SlAt.mod (SlAt.mod (SlAt.mod z1 HM4.out (fun b o e h => ?_)) HM5.out (fun b o e h => (z2 b o e).2.2 h)) HMS.out (fun b o e h => (z2 b o e).2.1 h), fun b o e => ⟨.inl (z2 b o e).1, (z2 b o e).2.1, fun e2 => ?_⟩, z3⟩
          · have h1 := HT.out.1 b (z2 b o e).1
            omega
          · have h1 := HT.out.1 b (z2 b o e).1
            exact (z2 b o e).2.2 ((HOLD.out b e2).1 (by omega))
        · rcases List.mem_singleton.1 hz with rfl
          have h5 := HM5.out.size
          have h6 := HMS.out.size
          refine ⟨SlAt.mod (SlAt.mod HY0.out HM5.out (fun b o e h => ?_)) HMS.out (fun b o e h => ?_), fun b o e => ⟨.inr ?_, ?_, fun e2 => ?_⟩, hll⟩
          · have h1 := (HRW.out.2 b o e).1
            have h2 := (HKP.out b h).2
            omega
          · have h1 := (HRW.out.2 b o e).1
            omega
          · have h1 := HRW.out.2 b o e
            exact ⟨h1.1, by omega⟩
          · have h1 := (HRW.out.2 b o e).1
            omega
          · have h1 := HRW.out.2 b o e
            have h2 := (HKP.out b ((HOLD.out b e2).1 (by omega))).2
            omega
      · refine (((HM4.out.mono (fun i hi e => by omega) : Mod T w w4)).then HM5.out (fun i hi e => HT.out.2.2 i e)).then HMS.out (fun i hi e => ?_)
        subst e
        exact HT.out.2.1
      · have h1 := HT.out.1 j h
        have h5 := HM5.out.size
        have h6 := HMS.out.size
        omega
set_option maxHeartbeats 1600000 in
theorem qputT_c {p : Nat} {L : List Nq} {T : Nat → Prop} {w : World} (h : RQ p L T w) (hL : L.length ≤ 900) (id : Int64) (v : Value) (hid : ∃ y ∈ L, y.x.id = id) : Calls Try.prog 18 #[ptrV p, .int .i64 id.toInt, v] w fun e w' => e = .returned (.int .i64 12) ∧ Mod (fun _ => False) w w' := by
  have HH := Lib.hid h
  have HID := Lib.hid hid
  clear h hid
  go_enter Try.func18, Try.ntmps18
  go_wp2_with fail
  go_at_call 33
  refine (qat_c HH.out id (by omega)).mono ?_
  rintro e w2 ⟨hc, hm⟩
  rcases hc with ⟨i, y, rfl, hy, hide⟩ | ⟨rfl, hno⟩
  · have hd : decide ((0 : Int) ≤ (i : Int)) = true := decide_eq_true (by omega)
    clear hy hide
    go_wp2_with fail
    go_ret
    exact ⟨rfl, hm⟩
  · obtain ⟨y, hy, e⟩ := HID.out
    exact absurd e (hno y hy)
end Go.Proofs.Ytffcnnogkpdinaa
