/- The lemmas of the proof, part 8: how the program and its data lie in memory, and what its functions do. -/
import Derived.Test.YtdeghpmlhcaedaaGreatDoorK7
set_option linter.unusedSimpArgs false
set_option linter.unusedVariables false
set_option linter.unusedSectionVars false
namespace Go.Proofs.YtdeghpmlhcaedaaGreatDoor
open Go.RowKit Go.Sort
open Go.ChangeMaps (setBlock)
structure PAct where
 what : UInt8
 num : UInt64
 prio : UInt64
 id : Int64
def pac (x : PAct) : Array Value := #[u8v x.what, u64v x.num, u64v x.prio, .int .i64 x.id.toInt]
theorem ldPac (w : World) (b o : Nat) : (Instr.loadAt 34 (.pointer (some ⟨b, o, none⟩))).run Tryz.prog w =
   match w.heap[b]? with
   | some (.cells cs _ _) => if o + 4 ≤ cs.size then .ok (.agg (cs.extract o (o + 4))) w else farL Tryz.prog w 34 b o
   | _ => farL Tryz.prog w 34 b o := load_rule (d := _) Tryz.underlying34 rfl (by kernel_rfl) w b o
theorem stPac (w : World) (b o : Nat) (xs : Array Value) : (Instr.storeAt 34 (.pointer (some ⟨b, o, none⟩)) (.agg xs)).run Tryz.prog w =
   match w.heap[b]? with
   | some (.cells cs U (0, 0)) =>
    if o + 4 ≤ cs.size ∧ xs.size = 4 ∧ xs.all (·.oneCell') = true then .ok () (setBlock w b (.cells (if o = 0 ∧ 4 = cs.size then xs else wr cs o xs.toList) U (0, 0))) else farS Tryz.prog w 34 b o (.agg xs)
   | _ => farS Tryz.prog w 34 b o (.agg xs) := store_rule (by kernel_rfl) w b o xs
theorem wlPac (dst : Option Tmp) (x : Operand) (ty : TypeId) (pos : String) (after : Array Edge) (g : Option (Nat × Bool)) (a : Act) (w : World) (K : Act → World → Prop) (Q : Exit → Act → World → Prop) :
  Oper.wp Tryz.prog { dst := dst, op := .load 34 x, type := ty, pos := pos, after := after, guard := g } a w K Q =
   (match a.eval x with
   | .pointer (some ⟨b, o, none⟩) =>
    (match w.heap[b]? with
    | some (.cells cs _ _) => if o + 4 ≤ cs.size then K (a.put dst (.agg (cs.extract o (o + 4)))) w else farW Tryz.prog { dst := dst, op := .load 34 x, type := ty, pos := pos, after := after, guard := g } a w K Q
    | _ => farW Tryz.prog { dst := dst, op := .load 34 x, type := ty, pos := pos, after := after, guard := g } a w K Q)
   | _ => farW Tryz.prog { dst := dst, op := .load 34 x, type := ty, pos := pos, after := after, guard := g } a w K Q) := wp_load_rule (d := _) Tryz.underlying34 rfl (by kernel_rfl) dst x ty pos after g a w K Q
theorem pac_size (x : PAct) : (pac x).size = 4 := rfl
theorem pac_all (x : PAct) : (pac x).extract 0 4 = pac x := rfl
theorem pac_0 (x : PAct) : (pac x)[0]? = some (u8v x.what) := rfl
theorem pac_1 (x : PAct) : (pac x)[1]? = some (u64v x.num) := rfl
theorem pac_2 (x : PAct) : (pac x)[2]? = some (u64v x.prio) := rfl
theorem pac_3 (x : PAct) : (pac x)[3]? = some (.int .i64 x.id.toInt) := rfl
theorem pac_part {C : Array Value} {o : Nat} {x : PAct} (h : C.extract o (o + 4) = pac x) : C[o + 3]? = some (.int .i64 x.id.toInt) := cellC h rfl
attribute [local go_sem ↓] wlPac ldPac stPac
attribute [local go_sem] cell_blk frozen_blk one_int one_bool one_ptr one_slice one_map Value.cells pac_size pac_all pac_0 pac_1 pac_2 pac_3
structure PI (w : World) (b r n : Nat) (S : List (Option It)) (ws : World) : Prop where
 bd : ∃ T, BDL b r n S S T ws ∧ (∀ i, T i → w.heap.size ≤ i ∧ i < ws.heap.size) ∧ Mod (fun _ => False) w ws
 len : S.length = n
 n96 : n ≤ 4096
 con : ConS S
section
variable {w w1 w2 : World} {b r n : Nat} {S S' : List (Option It)}
theorem PI.m (H : PI w b r n S w1) : Mod (fun _ => False) w w1 := by
 obtain ⟨T, _, _, m⟩ := H.bd
 exact m
theorem PI.mod0 (H : PI w b r n S w1) (hm : Mod (fun _ => False) w1 w2) : PI w b r n S w2 := by
 obtain ⟨T, hA, hT, m⟩ := H.bd
 exact ⟨⟨T, (goodBD b r n S S).cl T w1 w2 hA (hm.mono (fun _ _ e => e.elim)), fun i hi => ⟨(hT i hi).1, Nat.lt_of_lt_of_le (hT i hi).2 hm.size⟩, m.then0 hm⟩, H.len, H.n96, H.con⟩
theorem PI.le (H : PI w b r n S w1) : S.length ≤ 4096 := by rw [H.len]; exact H.n96
theorem PI.rt {B : Bx} {K : Land} {T TR : Nat → Prop} (H : PI w b r n S w1) (hT : ∀ i, T i → w.heap.size ≤ i) (hm : Mod (fun _ => False) w w1) (hr : RT T w1 B K TR w2) (hA : BDL b r n S' S' TR w2) (hl : S'.length = S.length) (hc : ConS S') : PI w b r n S' w2 := by
 refine ⟨⟨TR, hA, fun i hi => ⟨?_, hr.lt i hi⟩, hm.then hr.mod (fun i hi e => by have := hT i e; omega)⟩, hl.trans H.len, H.n96, hc⟩
 by_cases h1 : i < w1.heap.size
 ·exact hT i (hr.old i h1 hi)
 ·have := hm.size
  omega
theorem PI.alike (H : PI w b r n S w1) (ht : TabW w) (id : Int) : Calls Tryz.prog 8 #[ptrV b, ptrV r, .int .i64 id] w1 fun e w' => e = .returned (.bool true) ∧ Mod (fun _ => False) w1 w' := by
 have hle := H.le
 have hcon := H.con
 have hm := H.m
 obtain ⟨T, ⟨T1, T2, hA, hR, _⟩, _⟩ := H.bd
 exact alike_c hA hR hle (TabW.mod0 ht hm) hcon id
end
theorem grow_up {w w1 w3 : World} {T : Nat → Prop} (hT : ∀ i, T i → w.heap.size ≤ i ∧ i < w1.heap.size) (hm : Mod (fun _ => False) w w1) (hm3 : Mod T w1 w3) : (∀ i, Grow T w1 w3 i → w.heap.size ≤ i ∧ i < w3.heap.size) ∧ Mod (fun _ => False) w w3 := by
 have h1 := hm.size
 have h2 := hm3.size
 refine ⟨fun i hi => hi.elim (fun h => ⟨(hT i h).1, Nat.lt_of_lt_of_le (hT i h).2 h2⟩) (fun h => ⟨Nat.le_trans h1 h.1, h.2⟩), hm.then hm3 (fun i hi e => by have := (hT i e).1; omega)⟩
theorem RT.low {w w1 w2 : World} {B : Bx} {K : Land} {T TR : Nat → Prop} (hT : ∀ i, T i → w.heap.size ≤ i) (hm : Mod (fun _ => False) w w1) (hr : RT T w1 B K TR w2) : (∀ i, TR i → w.heap.size ≤ i ∧ i < w2.heap.size) ∧ Mod (fun _ => False) w w2 := by
 refine ⟨fun i hi => ⟨?_, hr.lt i hi⟩, hm.then hr.mod (fun i hi e => by have := hT i e; omega)⟩
 by_cases h1 : i < w1.heap.size
 ·exact hT i (hr.old i h1 hi)
 ·have := hm.size
  omega
set_option maxRecDepth 20000 in
set_option maxHeartbeats 25600000 in
theorem one_c {w w0 : World} {b r n : Nat} {S : List (Option It)} (H : PI w b r n S w0) (ht : TabW w) (x : PAct) : Calls Tryz.prog 7 #[ptrV b, ptrV r, .agg (pac x)] w0 fun e w' => e = .returned (.bool true) ∧ ∃ S', PI w b r n S' w' := by
 have H0 := Lib.hid H
 have HTB := Lib.hid ht
 clear H ht
 obtain ⟨k, hk⟩ : ∃ k, k = x.what.toNat % 6 := ⟨_, rfl⟩
 have hmo : (x.what.toNat : Int).tmod 6 = (k : Int) := by rw [Int.tmod_eq_emod_of_nonneg (by omega)]; omega
 have hmo2 : IntKind.u8.wrap (k : Int) = (k : Int) := by rw [IntKind.wrap_u8]; omega
 have hk6 : k < 6 := by omega
 clear hk
 go_enter Tryz.func7, Tryz.ntmps7
 go_upto_region 0 with fail
 refine wp_pass0 (C := fun _ _ _ => False) (κ := fun i => [3, 0].getD i 0) [0, 1] (by kernel_rfl) (by kernel_rfl) (fun _ _ d _ _ h => by cases d <;> first | exact h | exact absurd h (hP _ _ _)) ?_
 (refine TD.box (v := ?v1) (by simp only [zK]; rfl) rfl (by rfl) rfl rfl ?hx1 (fun p5 hp5 => ?n1); (case hx1 => simp only [Act.eval, zM]; try rfl); try simp only [Act.put, zL])
 (refine TD.val0 (v := ?v2) (by simp only [zK]; rfl) rfl (by rfl) (fun w1 => ?y2) ?n2; (case y2 => go_simp; try with_reducible rfl); try simp only [Act.put, zL])
 refine TD.nil (fun w1 hr => ?_)
 have kp5 := hr.box p5 _ (by first | exact Bx.set_same _ _ _ | (simp only [Bx.set_same]; rfl)); dsimp only [Value.cells] at kp5; obtain ⟨gp5, kp5⟩ := kp5
 have HP := Lib.hid (H0.out.mod0 hr.mod)
 obtain ⟨T, hBD, hT, hmw⟩ := H0.out.bd
 replace hBD := (goodBD b r n S S).cl T w0 w1 hBD (hr.mod.mono (fun _ _ e => e.elim))
 have HT : Hid ((∀ i, T i → w.heap.size ≤ i ∧ i < w1.heap.size) ∧ Mod (fun _ => False) w w1) := Lib.hid ⟨fun i hi => ⟨(hT i hi).1, Nat.lt_of_lt_of_le (hT i hi).2 hr.mod.size⟩, hmw.then0 hr.mod⟩
 have hnp5 : ¬ T p5 := fun e => by have h1 := (hT p5 e).2; omega
 clear hr H0 hT hmw
 rcases (by omega : k = 0 ∨ k = 1 ∨ k = 2 ∨ k = 3 ∨ k = 4 ∨ k = 5) with rfl | rfl | rfl | rfl | rfl | rfl
 ·clear hk6
  obtain ⟨k, er, m, l, S', hlm, hm1, hl, hc, hA1, hA2⟩ := pairAdd (b := b) (r := r) HP.out.len HP.out.le HP.out.con x.num x.prio
  have HA := Lib.hid (And.intro hlm (And.intro hm1 (And.intro hl (And.intro hc (And.intro hA1 hA2)))))
  have hT0 : ¬ T 0 := fun e => by
   obtain ⟨C, U, fr, h0, _⟩ := HTB.out
   have h1 := lt_size h0
   have h2 := (HT.out.1 0 e).1
   omega
  have HT0 := Lib.hid hT0
  have hbt := bt_wrap x.num
  clear hlm hm1 hl hc hA1 hA2 hT0
  go_upto_region 3 with fail
  have Lkp5 := lt_size kp5
  refine wp_gpass (T0 := T) (K := BDL b r n S S) (κ := fun i => [0, 0, 0, 0, 0, 0, 0, 0, 6, 6, 0, 0, 0, 0, 0, 0, 0].getD i 0) (υ := fun i => [[], [], [], [], [], [], [], [], [], [], [], [], [], [], [], [], []].getD i []) [0, 1, 2, 3, 4, 5, 6, 7, 8, 9, 10, 11, 12, 13, 14, 15, 16] (by kernel_rfl) (by kernel_rfl) (goodBD b r n S S).cl (hBD) (fun i hi => (HT.out.1 i hi).2) ?_
  have gK := goodBD b r n S S
  (refine TG.v0 (v := ?v3) (by simp only [zK]; rfl) rfl (by rfl) (fun w1 => ?y3) ?n3; (case y3 => go_simp; try with_reducible rfl); try simp only [Act.put, zL])
  (refine TG.v0 (v := ?v4) (by simp only [zK]; rfl) rfl (by rfl) (fun w1 => ?y4) ?n4; (case y4 => go_simp; try with_reducible rfl); try simp only [Act.put, zL])
  (refine TG.load (v := ?v5) (p := ?p5) (by simp only [zK]; rfl) rfl (by rfl) rfl ?hx5 (fun wq hSq => ?y5) ?n5; (case hx5 => simp only [Act.eval, zM]; try rfl); (case y5 => (have kp5q := hSq.at kp5 (by intro hT; first | exact hT | exact absurd hT (by assumption) | omega | (simp only at hT; omega)); go_simp; (try with_reducible rfl))); try simp only [Act.put, zL])
  (refine TG.v0 (v := ?v6) (by simp only [zK]; rfl) rfl (by rfl) (fun w1 => ?y6) ?n6; (case y6 => go_simp; try with_reducible rfl); try simp only [Act.put, zL])
  (refine TG.load (v := ?v7) (p := ?p7) (by simp only [zK]; rfl) rfl (by rfl) rfl ?hx7 (fun wq hSq => ?y7) ?n7; (case hx7 => simp only [Act.eval, zM]; try rfl); (case y7 => (have kp5q := hSq.at kp5 (by intro hT; first | exact hT | exact absurd hT (by assumption) | omega | (simp only at hT; omega)); go_simp; (try with_reducible rfl))); try simp only [Act.put, zL])
  (refine TG.v0 (v := ?v8) (by simp only [zK]; rfl) rfl (by rfl) (fun w1 => ?y8) ?n8; (case y8 => go_simp; try with_reducible rfl); try simp only [Act.put, zL])
  (refine TG.load (v := ?v9) (p := ?p9) (by simp only [zK]; rfl) rfl (by rfl) rfl ?hx9 (fun wq hSq => ?y9) ?n9; (case hx9 => simp only [Act.eval, zM]; try rfl); (case y9 => (have kp5q := hSq.at kp5 (by intro hT; first | exact hT | exact absurd hT (by assumption) | omega | (simp only at hT; omega)); go_simp; (try with_reducible rfl))); try simp only [Act.put, zL])
  (refine TG.v0 (v := ?v10) (by simp only [zK]; rfl) rfl (by rfl) (fun w1 => ?y10) ?n10; (case y10 => go_simp; try with_reducible rfl); try simp only [Act.put, zL])
  (refine TG.callM (f := ?f11) (args := ?r11) (RdyL (rdy x.prio (bt x.num))) (goodRdy (rdy x.prio (bt x.num))) gK (by simp only [zK]; rfl) rfl (by rfl) (fun w1 => ?y11) (fun T wq kq ltq hSq ub => ?hsp11) ?n11; (case y11 => (go_simp; (first | with_reducible rfl | (constructor <;> with_reducible rfl)))); (case hsp11 => (have kp5q := hSq.at kp5 (by intro hT; first | exact hT | exact absurd hT (by assumption) | omega | (simp only at hT; omega)); exact (readyI_c x.prio (bt x.num) wq).mono (fun e w' h => by obtain ⟨x1, h1, h2, h3, h4, h5⟩ := h; exact ⟨_, h1, h5, x1, rfl, h2, h3, h4.mono (fun i hi => .inr hi)⟩))); rintro v11 ⟨wI, TI, hI⟩; replace gK := gK.and ((goodRdy (rdy x.prio (bt x.num))) v11); (obtain ⟨_, xr, rfl, _⟩ := hI.k); (try clear hI TI wI); try simp only [Act.put, zL])
  (refine TG.callK (f := ?f12) (args := ?r12) (fun v T w => ∃ a c, IsV (.tuple #[.int .i64 k, .slice a m c, .int .i64 er]) v ∧ BDO b r n S' S a l T w) (fun v => Good.ex fun a => Good.ex fun c => (Good.pure (IsV (.tuple #[.int .i64 k, .slice a m c, .int .i64 er]) v)).and (goodBDO b r n S' S a l)) (by simp only [zK]; rfl) rfl (by rfl) (fun w1 => ?y12) (fun T wq kq ltq hSq ub => ?hsp12) ?n12; (case y12 => (go_simp; (first | with_reducible rfl | (constructor <;> with_reducible rfl)))); (case hsp12 => (have kp5q := hSq.at kp5 (by intro hT; first | exact hT | exact absurd hT (by assumption) | omega | (simp only at hT; omega)); (obtain ⟨x1, e1, hc1, ho1, _⟩ := kq.2; injection e1 with e1; rw [e1]; exact HA.out.2.2.2.2.1 T wq kq.1 ((TabW.mod0 HTB.out HT.out.2).mod hSq HT0.out) x1 ho1 hc1))); rintro v12 ⟨wI, TI, hI⟩; replace gK := (fun v => Good.ex fun a => Good.ex fun c => (Good.pure (IsV (.tuple #[.int .i64 k, .slice a m c, .int .i64 er]) v)).and (goodBDO b r n S' S a l)) v12; (obtain ⟨a1, c1, hv, _⟩ := hI.k; have hv2 : _ = Value.tuple #[.int .i64 k, .slice a1 m c1, .int .i64 er] := hv; subst hv2); (try clear hI TI wI); try simp only [Act.put, zL])
  (refine TG.v0 (v := ?v13) (by simp only [zK]; rfl) rfl (by rfl) (fun w1 => ?y13) ?n13; (case y13 => go_simp; try with_reducible rfl); try simp only [Act.put, zL])
  (refine TG.v0 (v := ?v14) (by simp only [zK]; rfl) rfl (by rfl) (fun w1 => ?y14) ?n14; (case y14 => go_simp; try with_reducible rfl); try simp only [Act.put, zL])
  (refine TG.v0 (v := ?v15) (by simp only [zK]; rfl) rfl (by rfl) (fun w1 => ?y15) ?n15; (case y15 => go_simp; try with_reducible rfl); try simp only [Act.put, zL])
  (refine TG.v0 (v := ?v16) (by simp only [zK]; rfl) rfl (by rfl) (fun w1 => ?y16) ?n16; (case y16 => go_simp; try with_reducible rfl); try simp only [Act.put, zL])
  (refine TG.v0 (v := ?v17) (by simp only [zK]; rfl) rfl (by rfl) (fun w1 => ?y17) ?n17; (case y17 => go_simp; try with_reducible rfl); try simp only [Act.put, zL])
  (refine TG.v0 (v := ?v18) (by simp only [zK]; rfl) rfl (by rfl) (fun w1 => ?y18) ?n18; (case y18 => go_simp; try with_reducible rfl); try simp only [Act.put, zL])
  (refine TG.v0 (v := ?v19) (by simp only [zK]; rfl) rfl (by rfl) (fun w1 => ?y19) ?n19; (case y19 => go_simp; try with_reducible rfl); try simp only [Act.put, zL])
  refine TG.nil (fun w3 ⟨TR, hr⟩ => ?_)
  have kp5 := hr.mod.at kp5 (by intro hT; first | exact hT | exact absurd hT (by assumption) | omega | (simp only at hT; omega))
  clear gK
  obtain ⟨a2, c2, hv, hO⟩ := hr.k
  have e12 : a1 = a2 := by
   have hv2 : Value.tuple #[.int .i64 k, .slice a1 m c1, .int .i64 er] = Value.tuple #[.int .i64 k, .slice a2 m c2, .int .i64 er] := hv
   injection hv2 with hv2
   have h3 := congrArg (fun x : Array Value => x[1]?) hv2
   simp only [zK, Option.some.injEq] at h3
   injection h3
  rw [← e12] at hO
  obtain ⟨T1, T2, hB3, hR3, h1, h2, h4, hs, ho⟩ := hO
  have HLW := Lib.hid (RT.low (fun i hi => (HT.out.1 i hi).1) HT.out.2 hr)
  have H3 := Lib.hid (And.intro hB3 (And.intro hR3 (And.intro h1 (And.intro h2 (And.intro h4 (And.intro hs ho))))))
  clear hr hBD hv e12 hB3 hR3 h1 h2 h4 hs ho hbt hnp5
  go_wp2_with fail
  go_at_call 20
  refine (HA.out.2.2.2.2.2 T2 w3 H3.out.2.1 H3.out.2.2.2.2.1).mono ?_
  rintro e w4 ⟨a4, c4, rfl, hs4, hq⟩
  obtain ⟨q1, hB4⟩ := BDL.stepQ H3.out.1 H3.out.2.2.1 H3.out.2.2.2.1 hq
  obtain ⟨_, _, hm2, _⟩ := hq
  have hs3 := H3.out.2.2.2.2.2.1.mod hm2 (fun g o e => (H3.out.2.2.2.2.2.2 g o e).2)
  have hnum := numbA_c (c1 := c1) (c2 := c4) hs3 hs4 (by have h5 := HA.out.1; have h6 := HA.out.2.1; omega) (by have h5 := HA.out.1; have h6 := HA.out.2.1; omega)
  rw [HA.out.1] at hnum
  obtain ⟨g1, g2⟩ := grow_up HLW.out.1 HLW.out.2 q1
  have HF := Lib.hid (show PI w b r n S' w4 from ⟨⟨_, hB4, g1, g2⟩, HA.out.2.2.1.trans HP.out.len, HP.out.n96, HA.out.2.2.2.1⟩)
  have HN := Lib.hid hnum
  clear hs4 q1 hB4 hm2 hs3 hnum g1 g2 kp5
  go_wp2_with fail
  go_at_call 13
  refine HN.out.mono ?_
  rintro e w5 ⟨rfl, m5⟩
  simp only [decide_true]
  go_wp2_with fail
  go_ret
  exact ⟨rfl, _, HF.out.mod0 m5⟩
 ·clear hk6
  obtain ⟨k, y, S', hl, hc, hB1, hB2⟩ := pairPop (b := b) (r := r) (n := n) HP.out.le HP.out.con
  have HB := Lib.hid (And.intro hl (And.intro hc (And.intro hB1 hB2)))
  have HBD := Lib.hid hBD
  clear hl hc hB1 hB2 hBD hnp5
  go_wp2_with fail
  go_at_call 14
  refine (HB.out.2.2.1 S T w1 HBD.out).mono ?_
  rintro e w3 ⟨u, rfl, hm3, rfl, hB3⟩
  have HG3 := Lib.hid (grow_up HT.out.1 HT.out.2 hm3)
  have HB3 := Lib.hid hB3
  clear hm3 hB3
  go_wp2_with fail
  go_at_call 21
  refine (HB.out.2.2.2 S' _ w3 HB3.out).mono ?_
  rintro e w4 ⟨u, rfl, hm4, rfl, hB4⟩
  obtain ⟨g1, g2⟩ := grow_up HG3.out.1 HG3.out.2 hm4
  have HF := Lib.hid (show PI w b r n S' w4 from ⟨⟨_, hB4, g1, g2⟩, HB.out.1.trans HP.out.len, HP.out.n96, HB.out.2.1⟩)
  clear hm4 hB4 g1 g2
  go_wp2_with fail
  go_ret
  exact ⟨rfl, _, HF.out⟩
 ·clear hk6
  obtain ⟨er, S', hl, hc, hB1, hB2⟩ := pairBack HP.out.le HP.out.con (b := b) (r := r) (n := n) x.id.toInt
  have HB := Lib.hid (And.intro hl (And.intro hc (And.intro hB1 hB2)))
  clear hl hc hB1 hB2
  go_upto_region 11 with fail
  have Lkp5 := lt_size kp5
  refine wp_gpass (T0 := T) (K := BDL b r n S S) (κ := fun i => [0, 0, 0, 6, 0, 0, 0, 6, 0, 0].getD i 0) (υ := fun i => [[], [], [], [], [], [], [], [], [], []].getD i []) [0, 1, 2, 3, 4, 5, 6, 7, 8, 9] (by kernel_rfl) (by kernel_rfl) (goodBD b r n S S).cl (hBD) (fun i hi => (HT.out.1 i hi).2) ?_
  have gK := goodBD b r n S S
  (refine TG.v0 (v := ?v20) (by simp only [zK]; rfl) rfl (by rfl) (fun w1 => ?y20) ?n20; (case y20 => go_simp; try with_reducible rfl); try simp only [Act.put, zL])
  (refine TG.v0 (v := ?v21) (by simp only [zK]; rfl) rfl (by rfl) (fun w1 => ?y21) ?n21; (case y21 => go_simp; try with_reducible rfl); try simp only [Act.put, zL])
  (refine TG.load (v := ?v22) (p := ?p22) (by simp only [zK]; rfl) rfl (by rfl) rfl ?hx22 (fun wq hSq => ?y22) ?n22; (case hx22 => simp only [Act.eval, zM]; try rfl); (case y22 => (have kp5q := hSq.at kp5 (by intro hT; first | exact hT | exact absurd hT (by assumption) | omega | (simp only at hT; omega)); go_simp; (try with_reducible rfl))); try simp only [Act.put, zL])
  (refine TG.callK (f := ?f23) (args := ?r23) (fun v T w => IsV (.int .i64 er) v ∧ BDL b r n S' S T w) (fun v => (Good.pure (IsV (.int .i64 er) v)).and (goodBD b r n S' S)) (by simp only [zK]; rfl) rfl (by rfl) (fun w1 => ?y23) (fun T wq kq ltq hSq ub => ?hsp23) ?n23; (case y23 => (go_simp; (first | with_reducible rfl | (constructor <;> with_reducible rfl)))); (case hsp23 => (have kp5q := hSq.at kp5 (by intro hT; first | exact hT | exact absurd hT (by assumption) | omega | (simp only at hT; omega)); exact (HB.out.2.2.1 S T wq kq))); rintro v23 ⟨wI, TI, hI⟩; replace gK := (fun v => (Good.pure (IsV (.int .i64 er) v)).and (goodBD b r n S' S)) v23; (obtain ⟨hv, _⟩ := hI.k; have hv2 : _ = Value.int .i64 er := hv; subst hv2); (try clear hI TI wI); try simp only [Act.put, zL])
  (refine TG.v0 (v := ?v24) (by simp only [zK]; rfl) rfl (by rfl) (fun w1 => ?y24) ?n24; (case y24 => go_simp; try with_reducible rfl); try simp only [Act.put, zL])
  (refine TG.v0 (v := ?v25) (by simp only [zK]; rfl) rfl (by rfl) (fun w1 => ?y25) ?n25; (case y25 => go_simp; try with_reducible rfl); try simp only [Act.put, zL])
  (refine TG.load (v := ?v26) (p := ?p26) (by simp only [zK]; rfl) rfl (by rfl) rfl ?hx26 (fun wq hSq => ?y26) ?n26; (case hx26 => simp only [Act.eval, zM]; try rfl); (case y26 => (have kp5q := hSq.at kp5 (by intro hT; first | exact hT | exact absurd hT (by assumption) | omega | (simp only at hT; omega)); go_simp; (try with_reducible rfl))); try simp only [Act.put, zL])
  (refine TG.callK (f := ?f27) (args := ?r27) (fun v T w => IsV (.int .i64 er) v ∧ BDL b r n S' S' T w) (fun v => (Good.pure (IsV (.int .i64 er) v)).and (goodBD b r n S' S')) (by simp only [zK]; rfl) rfl (by rfl) (fun w1 => ?y27) (fun T wq kq ltq hSq ub => ?hsp27) ?n27; (case y27 => (go_simp; (first | with_reducible rfl | (constructor <;> with_reducible rfl)))); (case hsp27 => (have kp5q := hSq.at kp5 (by intro hT; first | exact hT | exact absurd hT (by assumption) | omega | (simp only at hT; omega)); exact (HB.out.2.2.2 S' T wq kq.2))); rintro v27 ⟨wI, TI, hI⟩; replace gK := (fun v => (Good.pure (IsV (.int .i64 er) v)).and (goodBD b r n S' S')) v27; (obtain ⟨hv, _⟩ := hI.k; have hv2 : _ = Value.int .i64 er := hv; subst hv2); (try clear hI TI wI); try simp only [Act.put, zL])
  (refine TG.v0 (v := ?v28) (by simp only [zK]; rfl) rfl (by rfl) (fun w1 => ?y28) ?n28; (case y28 => go_simp; try with_reducible rfl); try simp only [Act.put, zL])
  (refine TG.v0 (v := ?v29) (by simp only [zK]; rfl) rfl (by rfl) (fun w1 => ?y29) ?n29; (case y29 => go_simp; try with_reducible rfl); try simp only [Act.put, zL])
  refine TG.nil (fun w3 ⟨TR, hr⟩ => ?_)
  have kp5 := hr.mod.at kp5 (by intro hT; first | exact hT | exact absurd hT (by assumption) | omega | (simp only at hT; omega))
  clear gK
  have HF := Lib.hid (HP.out.rt (fun i hi => (HT.out.1 i hi).1) HT.out.2 hr hr.k.2 HB.out.1 HB.out.2.1)
  clear hr hBD kp5
  go_wp2_with fail
  go_ret
  exact ⟨rfl, _, HF.out⟩
 ·clear hk6
  obtain ⟨er, S', hl, hc, hB1, hB2⟩ := pairPark HP.out.le HP.out.con (b := b) (r := r) (n := n) x.id.toInt
  have HB := Lib.hid (And.intro hl (And.intro hc (And.intro hB1 hB2)))
  clear hl hc hB1 hB2
  go_upto_region 13 with fail
  have Lkp5 := lt_size kp5
  refine wp_gpass (T0 := T) (K := BDL b r n S S) (κ := fun i => [0, 0, 0, 6, 0, 0, 0, 6, 0, 0].getD i 0) (υ := fun i => [[], [], [], [], [], [], [], [], [], []].getD i []) [0, 1, 2, 3, 4, 5, 6, 7, 8, 9] (by kernel_rfl) (by kernel_rfl) (goodBD b r n S S).cl (hBD) (fun i hi => (HT.out.1 i hi).2) ?_
  have gK := goodBD b r n S S
  (refine TG.v0 (v := ?v30) (by simp only [zK]; rfl) rfl (by rfl) (fun w1 => ?y30) ?n30; (case y30 => go_simp; try with_reducible rfl); try simp only [Act.put, zL])
  (refine TG.v0 (v := ?v31) (by simp only [zK]; rfl) rfl (by rfl) (fun w1 => ?y31) ?n31; (case y31 => go_simp; try with_reducible rfl); try simp only [Act.put, zL])
  (refine TG.load (v := ?v32) (p := ?p32) (by simp only [zK]; rfl) rfl (by rfl) rfl ?hx32 (fun wq hSq => ?y32) ?n32; (case hx32 => simp only [Act.eval, zM]; try rfl); (case y32 => (have kp5q := hSq.at kp5 (by intro hT; first | exact hT | exact absurd hT (by assumption) | omega | (simp only at hT; omega)); go_simp; (try with_reducible rfl))); try simp only [Act.put, zL])
  (refine TG.callK (f := ?f33) (args := ?r33) (fun v T w => IsV (.int .i64 er) v ∧ BDL b r n S' S T w) (fun v => (Good.pure (IsV (.int .i64 er) v)).and (goodBD b r n S' S)) (by simp only [zK]; rfl) rfl (by rfl) (fun w1 => ?y33) (fun T wq kq ltq hSq ub => ?hsp33) ?n33; (case y33 => (go_simp; (first | with_reducible rfl | (constructor <;> with_reducible rfl)))); (case hsp33 => (have kp5q := hSq.at kp5 (by intro hT; first | exact hT | exact absurd hT (by assumption) | omega | (simp only at hT; omega)); exact (HB.out.2.2.1 S T wq kq))); rintro v33 ⟨wI, TI, hI⟩; replace gK := (fun v => (Good.pure (IsV (.int .i64 er) v)).and (goodBD b r n S' S)) v33; (obtain ⟨hv, _⟩ := hI.k; have hv2 : _ = Value.int .i64 er := hv; subst hv2); (try clear hI TI wI); try simp only [Act.put, zL])
  (refine TG.v0 (v := ?v34) (by simp only [zK]; rfl) rfl (by rfl) (fun w1 => ?y34) ?n34; (case y34 => go_simp; try with_reducible rfl); try simp only [Act.put, zL])
  (refine TG.v0 (v := ?v35) (by simp only [zK]; rfl) rfl (by rfl) (fun w1 => ?y35) ?n35; (case y35 => go_simp; try with_reducible rfl); try simp only [Act.put, zL])
  (refine TG.load (v := ?v36) (p := ?p36) (by simp only [zK]; rfl) rfl (by rfl) rfl ?hx36 (fun wq hSq => ?y36) ?n36; (case hx36 => simp only [Act.eval, zM]; try rfl); (case y36 => (have kp5q := hSq.at kp5 (by intro hT; first | exact hT | exact absurd hT (by assumption) | omega | (simp only at hT; omega)); go_simp; (try with_reducible rfl))); try simp only [Act.put, zL])
  (refine TG.callK (f := ?f37) (args := ?r37) (fun v T w => IsV (.int .i64 er) v ∧ BDL b r n S' S' T w) (fun v => (Good.pure (IsV (.int .i64 er) v)).and (goodBD b r n S' S')) (by simp only [zK]; rfl) rfl (by rfl) (fun w1 => ?y37) (fun T wq kq ltq hSq ub => ?hsp37) ?n37; (case y37 => (go_simp; (first | with_reducible rfl | (constructor <;> with_reducible rfl)))); (case hsp37 => (have kp5q := hSq.at kp5 (by intro hT; first | exact hT | exact absurd hT (by assumption) | omega | (simp only at hT; omega)); exact (HB.out.2.2.2 S' T wq kq.2))); rintro v37 ⟨wI, TI, hI⟩; replace gK := (fun v => (Good.pure (IsV (.int .i64 er) v)).and (goodBD b r n S' S')) v37; (obtain ⟨hv, _⟩ := hI.k; have hv2 : _ = Value.int .i64 er := hv; subst hv2); (try clear hI TI wI); try simp only [Act.put, zL])
  (refine TG.v0 (v := ?v38) (by simp only [zK]; rfl) rfl (by rfl) (fun w1 => ?y38) ?n38; (case y38 => go_simp; try with_reducible rfl); try simp only [Act.put, zL])
  (refine TG.v0 (v := ?v39) (by simp only [zK]; rfl) rfl (by rfl) (fun w1 => ?y39) ?n39; (case y39 => go_simp; try with_reducible rfl); try simp only [Act.put, zL])
  refine TG.nil (fun w3 ⟨TR, hr⟩ => ?_)
  have kp5 := hr.mod.at kp5 (by intro hT; first | exact hT | exact absurd hT (by assumption) | omega | (simp only at hT; omega))
  clear gK
  have HF := Lib.hid (HP.out.rt (fun i hi => (HT.out.1 i hi).1) HT.out.2 hr hr.k.2 HB.out.1 HB.out.2.1)
  clear hr hBD kp5
  go_wp2_with fail
  go_ret
  exact ⟨rfl, _, HF.out⟩
 ·clear hk6
  obtain ⟨er, S', hl, hc, hB1, hB2⟩ := pairDone HP.out.le HP.out.con (b := b) (r := r) (n := n) x.id.toInt
  have HB := Lib.hid (And.intro hl (And.intro hc (And.intro hB1 hB2)))
  clear hl hc hB1 hB2
  go_upto_region 15 with fail
  have Lkp5 := lt_size kp5
  refine wp_gpass (T0 := T) (K := BDL b r n S S) (κ := fun i => [0, 0, 0, 6, 0, 0, 0, 6, 0, 0].getD i 0) (υ := fun i => [[], [], [], [], [], [], [], [], [], []].getD i []) [0, 1, 2, 3, 4, 5, 6, 7, 8, 9] (by kernel_rfl) (by kernel_rfl) (goodBD b r n S S).cl (hBD) (fun i hi => (HT.out.1 i hi).2) ?_
  have gK := goodBD b r n S S
  (refine TG.v0 (v := ?v40) (by simp only [zK]; rfl) rfl (by rfl) (fun w1 => ?y40) ?n40; (case y40 => go_simp; try with_reducible rfl); try simp only [Act.put, zL])
  (refine TG.v0 (v := ?v41) (by simp only [zK]; rfl) rfl (by rfl) (fun w1 => ?y41) ?n41; (case y41 => go_simp; try with_reducible rfl); try simp only [Act.put, zL])
  (refine TG.load (v := ?v42) (p := ?p42) (by simp only [zK]; rfl) rfl (by rfl) rfl ?hx42 (fun wq hSq => ?y42) ?n42; (case hx42 => simp only [Act.eval, zM]; try rfl); (case y42 => (have kp5q := hSq.at kp5 (by intro hT; first | exact hT | exact absurd hT (by assumption) | omega | (simp only at hT; omega)); go_simp; (try with_reducible rfl))); try simp only [Act.put, zL])
  (refine TG.callK (f := ?f43) (args := ?r43) (fun v T w => IsV (.int .i64 er) v ∧ BDL b r n S' S T w) (fun v => (Good.pure (IsV (.int .i64 er) v)).and (goodBD b r n S' S)) (by simp only [zK]; rfl) rfl (by rfl) (fun w1 => ?y43) (fun T wq kq ltq hSq ub => ?hsp43) ?n43; (case y43 => (go_simp; (first | with_reducible rfl | (constructor <;> with_reducible rfl)))); (case hsp43 => (have kp5q := hSq.at kp5 (by intro hT; first | exact hT | exact absurd hT (by assumption) | omega | (simp only at hT; omega)); exact (HB.out.2.2.1 S T wq kq))); rintro v43 ⟨wI, TI, hI⟩; replace gK := (fun v => (Good.pure (IsV (.int .i64 er) v)).and (goodBD b r n S' S)) v43; (obtain ⟨hv, _⟩ := hI.k; have hv2 : _ = Value.int .i64 er := hv; subst hv2); (try clear hI TI wI); try simp only [Act.put, zL])
  (refine TG.v0 (v := ?v44) (by simp only [zK]; rfl) rfl (by rfl) (fun w1 => ?y44) ?n44; (case y44 => go_simp; try with_reducible rfl); try simp only [Act.put, zL])
  (refine TG.v0 (v := ?v45) (by simp only [zK]; rfl) rfl (by rfl) (fun w1 => ?y45) ?n45; (case y45 => go_simp; try with_reducible rfl); try simp only [Act.put, zL])
  (refine TG.load (v := ?v46) (p := ?p46) (by simp only [zK]; rfl) rfl (by rfl) rfl ?hx46 (fun wq hSq => ?y46) ?n46; (case hx46 => simp only [Act.eval, zM]; try rfl); (case y46 => (have kp5q := hSq.at kp5 (by intro hT; first | exact hT | exact absurd hT (by assumption) | omega | (simp only at hT; omega)); go_simp; (try with_reducible rfl))); try simp only [Act.put, zL])
  (refine TG.callK (f := ?f47) (args := ?r47) (fun v T w => IsV (.int .i64 er) v ∧ BDL b r n S' S' T w) (fun v => (Good.pure (IsV (.int .i64 er) v)).and (goodBD b r n S' S')) (by simp only [zK]; rfl) rfl (by rfl) (fun w1 => ?y47) (fun T wq kq ltq hSq ub => ?hsp47) ?n47; (case y47 => (go_simp; (first | with_reducible rfl | (constructor <;> with_reducible rfl)))); (case hsp47 => (have kp5q := hSq.at kp5 (by intro hT; first | exact hT | exact absurd hT (by assumption) | omega | (simp only at hT; omega)); exact (HB.out.2.2.2 S' T wq kq.2))); rintro v47 ⟨wI, TI, hI⟩; replace gK := (fun v => (Good.pure (IsV (.int .i64 er) v)).and (goodBD b r n S' S')) v47; (obtain ⟨hv, _⟩ := hI.k; have hv2 : _ = Value.int .i64 er := hv; subst hv2); (try clear hI TI wI); try simp only [Act.put, zL])
  (refine TG.v0 (v := ?v48) (by simp only [zK]; rfl) rfl (by rfl) (fun w1 => ?y48) ?n48; (case y48 => go_simp; try with_reducible rfl); try simp only [Act.put, zL])
  (refine TG.v0 (v := ?v49) (by simp only [zK]; rfl) rfl (by rfl) (fun w1 => ?y49) ?n49; (case y49 => go_simp; try with_reducible rfl); try simp only [Act.put, zL])
  refine TG.nil (fun w3 ⟨TR, hr⟩ => ?_)
  have kp5 := hr.mod.at kp5 (by intro hT; first | exact hT | exact absurd hT (by assumption) | omega | (simp only at hT; omega))
  clear gK
  have HF := Lib.hid (HP.out.rt (fun i hi => (HT.out.1 i hi).1) HT.out.2 hr hr.k.2 HB.out.1 HB.out.2.1)
  clear hr hBD kp5
  go_wp2_with fail
  go_ret
  exact ⟨rfl, _, HF.out⟩
 ·clear hk6
  obtain ⟨er, S', hl, hc, hB1, hB2⟩ := pairSend HP.out.le HP.out.con (b := b) (r := r) (n := n) x.id.toInt
  have HB := Lib.hid (And.intro hl (And.intro hc (And.intro hB1 hB2)))
  clear hl hc hB1 hB2
  go_upto_region 16 with fail
  have Lkp5 := lt_size kp5
  refine wp_gpass (T0 := T) (K := BDL b r n S S) (κ := fun i => [0, 0, 0, 6, 0, 0, 0, 6, 0, 0].getD i 0) (υ := fun i => [[], [], [], [], [], [], [], [], [], []].getD i []) [0, 1, 2, 3, 4, 5, 6, 7, 8, 9] (by kernel_rfl) (by kernel_rfl) (goodBD b r n S S).cl (hBD) (fun i hi => (HT.out.1 i hi).2) ?_
  have gK := goodBD b r n S S
  (refine TG.v0 (v := ?v50) (by simp only [zK]; rfl) rfl (by rfl) (fun w1 => ?y50) ?n50; (case y50 => go_simp; try with_reducible rfl); try simp only [Act.put, zL])
  (refine TG.v0 (v := ?v51) (by simp only [zK]; rfl) rfl (by rfl) (fun w1 => ?y51) ?n51; (case y51 => go_simp; try with_reducible rfl); try simp only [Act.put, zL])
  (refine TG.load (v := ?v52) (p := ?p52) (by simp only [zK]; rfl) rfl (by rfl) rfl ?hx52 (fun wq hSq => ?y52) ?n52; (case hx52 => simp only [Act.eval, zM]; try rfl); (case y52 => (have kp5q := hSq.at kp5 (by intro hT; first | exact hT | exact absurd hT (by assumption) | omega | (simp only at hT; omega)); go_simp; (try with_reducible rfl))); try simp only [Act.put, zL])
  (refine TG.callK (f := ?f53) (args := ?r53) (fun v T w => IsV (.int .i64 er) v ∧ BDL b r n S' S T w) (fun v => (Good.pure (IsV (.int .i64 er) v)).and (goodBD b r n S' S)) (by simp only [zK]; rfl) rfl (by rfl) (fun w1 => ?y53) (fun T wq kq ltq hSq ub => ?hsp53) ?n53; (case y53 => (go_simp; (first | with_reducible rfl | (constructor <;> with_reducible rfl)))); (case hsp53 => (have kp5q := hSq.at kp5 (by intro hT; first | exact hT | exact absurd hT (by assumption) | omega | (simp only at hT; omega)); exact (HB.out.2.2.1 S T wq kq))); rintro v53 ⟨wI, TI, hI⟩; replace gK := (fun v => (Good.pure (IsV (.int .i64 er) v)).and (goodBD b r n S' S)) v53; (obtain ⟨hv, _⟩ := hI.k; have hv2 : _ = Value.int .i64 er := hv; subst hv2); (try clear hI TI wI); try simp only [Act.put, zL])
  (refine TG.v0 (v := ?v54) (by simp only [zK]; rfl) rfl (by rfl) (fun w1 => ?y54) ?n54; (case y54 => go_simp; try with_reducible rfl); try simp only [Act.put, zL])
  (refine TG.v0 (v := ?v55) (by simp only [zK]; rfl) rfl (by rfl) (fun w1 => ?y55) ?n55; (case y55 => go_simp; try with_reducible rfl); try simp only [Act.put, zL])
  (refine TG.load (v := ?v56) (p := ?p56) (by simp only [zK]; rfl) rfl (by rfl) rfl ?hx56 (fun wq hSq => ?y56) ?n56; (case hx56 => simp only [Act.eval, zM]; try rfl); (case y56 => (have kp5q := hSq.at kp5 (by intro hT; first | exact hT | exact absurd hT (by assumption) | omega | (simp only at hT; omega)); go_simp; (try with_reducible rfl))); try simp only [Act.put, zL])
  (refine TG.callK (f := ?f57) (args := ?r57) (fun v T w => IsV (.int .i64 er) v ∧ BDL b r n S' S' T w) (fun v => (Good.pure (IsV (.int .i64 er) v)).and (goodBD b r n S' S')) (by simp only [zK]; rfl) rfl (by rfl) (fun w1 => ?y57) (fun T wq kq ltq hSq ub => ?hsp57) ?n57; (case y57 => (go_simp; (first | with_reducible rfl | (constructor <;> with_reducible rfl)))); (case hsp57 => (have kp5q := hSq.at kp5 (by intro hT; first | exact hT | exact absurd hT (by assumption) | omega | (simp only at hT; omega)); exact (HB.out.2.2.2 S' T wq kq.2))); rintro v57 ⟨wI, TI, hI⟩; replace gK := (fun v => (Good.pure (IsV (.int .i64 er) v)).and (goodBD b r n S' S')) v57; (obtain ⟨hv, _⟩ := hI.k; have hv2 : _ = Value.int .i64 er := hv; subst hv2); (try clear hI TI wI); try simp only [Act.put, zL])
  (refine TG.v0 (v := ?v58) (by simp only [zK]; rfl) rfl (by rfl) (fun w1 => ?y58) ?n58; (case y58 => go_simp; try with_reducible rfl); try simp only [Act.put, zL])
  (refine TG.v0 (v := ?v59) (by simp only [zK]; rfl) rfl (by rfl) (fun w1 => ?y59) ?n59; (case y59 => go_simp; try with_reducible rfl); try simp only [Act.put, zL])
  refine TG.nil (fun w3 ⟨TR, hr⟩ => ?_)
  have kp5 := hr.mod.at kp5 (by intro hT; first | exact hT | exact absurd hT (by assumption) | omega | (simp only at hT; omega))
  clear gK
  have HF := Lib.hid (HP.out.rt (fun i hi => (HT.out.1 i hi).1) HT.out.2 hr hr.k.2 HB.out.1 HB.out.2.1)
  clear hr hBD kp5
  go_wp2_with fail
  go_ret
  exact ⟨rfl, _, HF.out⟩
theorem docL_none : ∀ (n k : Nat), docL k (List.replicate n none) = []
 | 0, k => rfl
 | n + 1, k => docL_none n (k + 1)
set_option maxRecDepth 20000 in
set_option maxHeartbeats 25600000 in
theorem playLaw_c (room : Int) (a : Option Addr) (l : List PAct) (c : Nat) (w : World) (hroom : -9223372036854775808 ≤ room ∧ room ≤ 9223372036854775807) (hl : SlAt pac 4 w a l) (ht : TabW w) : Calls Tryz.prog 3 #[.int .i64 room, .slice a l.length c] w fun e w' => e = .returned (.bool true) ∧ Mod (fun _ => False) w w' := by
 have HL := Lib.hid hl
 have HTB := Lib.hid ht
 have m0 := Mod.refl (fun _ => False) w
 clear hl ht hroom
 go_enter Tryz.func3, Tryz.ntmps3
 by_cases hr : room < 1 ∨ 4096 < room
 ·have HR := Lib.hid hr
  clear hr
  go_wp2_with fail
  go_at_call 4
  refine (bnewN_c w HR.out).mono ?_
  rintro e w1 ⟨rfl, hw1⟩
  subst hw1
  go_wp2_with fail
  go_at_call 5
  refine (qnewN_c _ HR.out).mono ?_
  rintro e w2 ⟨rfl, hw2⟩
  subst hw2
  go_wp2_with fail
  go_at_call 6
  refine (lives_c _ (HTB.out.mod0 m0)).mono ?_
  rintro e w4 ⟨rfl, m4⟩
  go_wp2_with fail
  go_ret
  exact ⟨rfl, m0.then0 m4⟩
 obtain ⟨n, rfl⟩ : ∃ n : Nat, room = (n : Int) := ⟨room.toNat, by omega⟩
 have hn1 : 1 ≤ n := by omega
 have hn2 : n ≤ 4096 := by omega
 clear hr
 go_wp2_with fail
 go_at_call 4
 refine (bnewY_c w hn1 hn2).mono ?_
 rintro e w1 ⟨b, rfl, H1⟩
 obtain ⟨T1, L1⟩ := LS.start H1 HTB.out
 have HL1 := Lib.hid L1
 clear H1 L1
 go_wp2_with fail
 go_at_call 5
 refine (qnewY_c w1 hn1 hn2).mono ?_
 rintro e w2 ⟨r, rfl, hR, hm2, hrl⟩
 have HP0 : Hid (PI w b r n (List.replicate n none) w2) := Lib.hid (by
  have hrlt : r < w2.heap.size := by
   obtain ⟨v, k, _⟩ := hR
   exact lt_size k
  refine ⟨⟨fun i => T1 i ∨ i = r, ⟨T1, fun i => i = r, HL1.out.bo.mod0 hm2, by rw [docL_none]; exact hR, fun i hi => ⟨.inl hi, fun e => by have := HL1.out.bo.lt i hi; omega⟩, fun i hi => .inr hi, fun i hi => by omega⟩, fun i hi => ?_, HL1.out.m.then0 hm2⟩, List.length_replicate, hn2, fun i x hx => ?_⟩
  ·have h1 := hm2.size
   have h2 := HL1.out.m.size
   rcases hi with hi | hi
   ·have h3 := HL1.out.up i hi
    have h4 := HL1.out.bo.lt i hi
    omega
   ·omega
  ·rw [List.getElem?_replicate] at hx
   split at hx <;> cases hx)
 have m2 := HL1.out.m.then0 hm2
 clear hR hm2 hrl HL1
 by_cases h80 : 80 < l.length
 ·have hd := decide_eq_true (show (80 : Int) < (l.length : Int) by omega)
  have hd2 := decide_eq_true h80
  clear h80
  go_wp2_with fail
  go_at_call 6
  refine (lives_c _ (HTB.out.mod0 m2)).mono ?_
  rintro e w4 ⟨rfl, m4⟩
  go_wp2_with fail
  go_ret
  exact ⟨rfl, m2.then0 m4⟩
 have hd := decide_eq_false (show ¬ (80 : Int) < (l.length : Int) by omega)
 have hd2 := decide_eq_false h80
 go_wp2_with fail
 go_loopw [9] (fun s9 ws => ∃ (i : Nat) (S : List (Option It)), i ≤ l.length ∧ s9 = .int .i64 (i : Int) ∧ Hid (PI w b r n S ws)) (fun s9 _ => l.length - (intOf s9).toNat)
 case atStart => exact ⟨0, _, by omega, rfl, HP0⟩
 case round =>
  clear HP0
  obtain ⟨i, S, hi, rfl, HP⟩ := hrel
  by_cases hlt : i < l.length
  ·obtain ⟨x, hx⟩ : ∃ x, l[i]? = some x := ⟨_, List.getElem?_eq_getElem hlt⟩
   have HX := Lib.hid hx
   obtain ⟨g, o, C, U, fr, rfl, k1, he, hle⟩ := (HL.out.mod0 HP.out.m).block hx
   have HC := Lib.hid ((HL.out).block hx)
   clear hx
   go_wp2_with fail
   go_at_call 7
   refine (one_c HP.out HTB.out x).mono ?_
   rintro e w3 ⟨rfl, S3, H3⟩
   have HP3 := Lib.hid H3
   obtain ⟨g2, o2, C2, U2, fr2, ha2, k2, he2, hle2⟩ := (HL.out.mod0 H3.m).block HX.out
   cases ha2
   have e3 := pac_part he2
   clear H3 k1 he hle he2
   go_wp2_with fail
   go_at_call 8
   refine (HP3.out.alike HTB.out x.id.toInt).mono ?_
   rintro e w4 ⟨rfl, m4⟩
   have HP4 := Lib.hid (HP3.out.mod0 m4)
   clear m4
   go_wp2_with fail
   go_at_call 8
   refine (HP4.out.alike HTB.out 0).mono ?_
   rintro e w5 ⟨rfl, m5⟩
   have HP5 := Lib.hid (HP4.out.mod0 m5)
   clear m5 k2 e3 hle2
   go_wp2_with fail
   go_roundw
   case rel => exact ⟨i + 1, S3, by omega, by go_num, HP5⟩
   case measure => simp [intOf]; omega
  ·obtain rfl : i = l.length := by omega
   have m3 := HP.out.m
   clear HP
   go_wp2_with fail
   go_at_call 6
   refine (lives_c _ (HTB.out.mod0 m3)).mono ?_
   rintro e w4 ⟨rfl, m4⟩
   go_wp2_with fail
   go_ret
   exact ⟨rfl, m3.then0 m4⟩
end Go.Proofs.YtdeghpmlhcaedaaGreatDoor
namespace Go.Proofs.YtdeghpmlhcaedaaGreatDoor
open Go.ChangeShapes Go.WideShapes Go.ChangeAt Go.RowKit
section
variable {H : Type} {enc : TypeId × Value → H}
set_option maxRecDepth 20000 in
theorem pact_reads : Reads enc Tryz.prog 34 pac (fun _ _ => True) := fun w base sp held fuel cs x h hfit => by
 obtain ⟨xs, m, rfl, rfl, hl, hx, hi⟩ := DataW.trod_struct Tryz.underlying34 h
 have hl : cs.length = 4 := hl.trans (by kernel_rfl)
 have hx : xs.length = 4 := hx
 have h0 : DataW.trod enc Tryz.prog w base sp held m 5 ((cs.drop 0).take (Tryz.prog.cellsOf 5)) = xs[0]? := hi 0 _ rfl
 have h1 : DataW.trod enc Tryz.prog w base sp held m 32 ((cs.drop 1).take (Tryz.prog.cellsOf 32)) = xs[1]? := hi 1 _ rfl
 have h2 : DataW.trod enc Tryz.prog w base sp held m 32 ((cs.drop 2).take (Tryz.prog.cellsOf 32)) = xs[2]? := hi 2 _ rfl
 have h3 : DataW.trod enc Tryz.prog w base sp held m 3 ((cs.drop 3).take (Tryz.prog.cellsOf 3)) = xs[3]? := hi 3 _ rfl
 rw [List.getElem?_eq_getElem (by omega)] at h0 h1 h2 h3
 rw [show Tryz.prog.cellsOf 5 = 1 by kernel_rfl] at h0
 rw [show Tryz.prog.cellsOf 32 = 1 by kernel_rfl] at h1 h2
 rw [show Tryz.prog.cellsOf 3 = 1 by kernel_rfl] at h3
 obtain ⟨n0, hn0, _, hw0⟩ := DataW.trod_int Tryz.underlying5 h0
 obtain ⟨n1, hn1, _, hw1⟩ := DataW.trod_int Tryz.underlying32 h1
 obtain ⟨n2, hn2, _, hw2⟩ := DataW.trod_int Tryz.underlying32 h2
 obtain ⟨n3, hn3, _, hw3⟩ := DataW.trod_int Tryz.underlying3 h3
 obtain ⟨x0, rfl⟩ := u8_of (bounds_u8 hw0)
 obtain ⟨x1, rfl⟩ := u64_of (bounds_u64 hw1)
 obtain ⟨x2, rfl⟩ := u64_of (bounds_u64 hw2)
 obtain ⟨x3, rfl⟩ := i64_of (bounds_i64 hw3)
 refine ⟨⟨x0, x1, x2, x3⟩, ?_, trivial⟩
 obtain ⟨a, b, c, d, rfl⟩ : ∃ a b c d, cs = [a, b, c, d] := by
  match cs, hl with
  | [a, b, c, d], _ => exact ⟨a, b, c, d, rfl⟩
 simp at hn0 hn1 hn2 hn3
 subst hn0
 subst hn1
 subst hn2
 subst hn3
 rfl
theorem pacts_reads : Reads enc Tryz.prog 22 (slv (α := PAct)) (SlOk pac 4 32 (fun _ _ => True)) :=
 slice_reads Tryz.underlying22 (by kernel_rfl) (by kernel_rfl) (by omega) pact_reads ⟨0, 0, 0, 0⟩
end
end Go.Proofs.YtdeghpmlhcaedaaGreatDoor
