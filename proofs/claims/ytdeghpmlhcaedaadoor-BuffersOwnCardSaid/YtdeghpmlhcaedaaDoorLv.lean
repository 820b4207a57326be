/- Buffers: lives. -/
import Derived.Test.YtdeghpmlhcaedaaDoorMP
namespace Go.Proofs.YtdeghpmlhcaedaaDoor
open Go.RowKit
open Go.ChangeMaps (setBlock)
set_option linter.unusedSimpArgs false
set_option linter.unusedVariables false
attribute [local go_sem] cell_blk frozen_blk one_int one_bool one_ptr one_slice one_map Value.cells
/-- A buffer made since w0. -/
structure LS (w0 : World) (b : Nat) (S : List (Option It)) (T : Nat → Prop) (w : World) : Prop where
  bo : BO b S T w
  up : ∀ i, T i → w0.heap.size ≤ i
  m : Mod (fun _ => False) w0 w
  tab : TabW w
section
variable {w0 w w' : World} {b : Nat} {S S' : List (Option It)} {T : Nat → Prop}
theorem LS.mod0 (H : LS w0 b S T w) (hm : Mod (fun _ => False) w w') : LS w0 b S T w' := ⟨H.bo.mod0 hm, H.up, H.m.then0 hm, H.tab.mod0 hm⟩
theorem LS.bh (H : LS w0 b S T w) : BH w T b S w := H.bo.bh
theorem LS.from1 (H : LS w0 b S T w) {T' : Nat → Prop} (h : BO b S' T' w' ∧ Mod T w w' ∧ ∀ i, T' i → T i ∨ w.heap.size ≤ i) : LS w0 b S' T' w' := by
  obtain ⟨h1, h2, h3⟩ := h
  refine ⟨h1, fun i hi => ?_, H.m.then h2 (fun i hi e => ?_), H.tab.mod h2 H.bo.2.1⟩
  · rcases h3 i hi with h | h
    · exact H.up i h
    · exact Nat.le_trans H.m.size h
  · have := H.up i e; omega
theorem LS.then (H : LS w0 b S T w) (H' : BH w T b S' w') : ∃ T', LS w0 b S' T' w' ∧ Mod T w w' ∧ ∀ i, T' i → T i ∨ w.heap.size ≤ i := by
  obtain ⟨T', h⟩ := H.bo.then H'
  exact ⟨T', H.from1 h, h.2⟩
theorem LS.start (H : BH w (fun _ => False) b S w') (ht : TabW w) : ∃ T, LS w b S T w' := by
  have ht2 := ht
  obtain ⟨C, U, fr, h0, _⟩ := ht2
  have hlt := lt_size h0
  obtain ⟨T, h⟩ := H.o
  have h2 := h.bo ⟨by omega, fun h => h⟩
  exact ⟨T, h2.1, fun i hi => (h2.2.2 i hi).resolve_left (fun h => h), h2.2.1, TabW.mod0 ht h2.2.1⟩
end
def Im (n p : UInt64) (b : UInt8) (pl : Nat) : It := ⟨n, rdy p b, pl, false⟩
def S1 : List (Option It) := [some (Im 1 5 1 0), none]
def S2 : List (Option It) := [some (Im 1 5 1 0), some (Im 2 9 2 0)]
def S3 : List (Option It) := [some (Im 4 7 4 0), some (Im 2 9 2 0)]
def S4 : List (Option It) := [some (Im 4 7 4 0), some (Im 2 9 2 1)]
def S5 : List (Option It) := [some (Im 5 8 5 0), some (Im 2 9 2 1)]
def S6 : List (Option It) := [some (Im 5 8 5 1), some (Im 2 9 2 1)]
def S7 : List (Option It) := [some (Im 5 8 5 0), some (Im 2 9 2 1)]
def S8 : List (Option It) := [some (Im 5 8 5 0), some (Im 2 9 2 2)]
def n1 : Nd := ⟨⟨5, 1⟩, idn 0⟩
def n2 : Nd := ⟨⟨9, 2⟩, idn 1⟩
def n4 : Nd := ⟨⟨7, 4⟩, idn 0⟩
def n5 : Nd := ⟨⟨8, 5⟩, idn 0⟩
theorem q2 : [n2, n1].Perm (wtg 0 S2) := List.Perm.swap n1 n2 []
theorem q3 : [n2, n4].Perm (wtg 0 S3) := List.Perm.swap n4 n2 []
theorem q4 : [n4].Perm (wtg 0 S4) := List.Perm.refl [n4]
theorem q5 : [n5].Perm (wtg 0 S5) := List.Perm.refl [n5]
theorem q8 : [n5].Perm (wtg 0 S8) := List.Perm.refl [n5]
theorem r2 : Srt [n2, n1] := by unfold Srt; decide
theorem r3 : Srt [n2, n4] := by unfold Srt; decide
theorem r4 : Srt [n4] := by unfold Srt; decide
theorem r5 : Srt [n5] := by unfold Srt; decide
theorem f0 : FreeS (List.replicate 2 (none : Option It)) 0 := ⟨rfl, fun i hi => by omega⟩
theorem f1 : FreeS S1 1 := ⟨rfl, fun i hi => by obtain rfl : i = 0 := by omega
                                                exact ⟨_, rfl⟩⟩
theorem bsIntL (k : Nat) (x : Int64) (h : x.toInt = (k : Int)) (w : World) : (Instr.buildSlice 51 1 #[(0, .int .i64 (k : Int))]).run Tryd.prog w = .ok (.slice (some ⟨w.heap.size, 0, none⟩) 1 1) (w.alloc (.cells (ic x) 3)) := by
  rw [← h]
  exact bsInt x w
set_option maxRecDepth 20000 in
set_option maxHeartbeats 12800000 in
theorem lives_c (w : World) (ht : TabW w) : Calls Tryd.prog 7 #[] w fun e w' => e = .returned (.bool true) ∧ Mod (fun _ => False) w w' := by
  have HT := Lib.hid ht
  clear ht
  go_enter Tryd.func7, Tryd.ntmps7
  go_wp2_with fail
  go_at_call 8
  refine (bnewY_c w (n := 2) (by omega) (by omega)).mono ?_
  rintro e w1 ⟨b, rfl, H1⟩
  obtain ⟨T1, L1⟩ := LS.start H1 HT.out
  have HL1 := Lib.hid L1
  clear H1 L1
  go_wp2_with fail
  go_at_call 10
  refine (ready_c 5 1 w1).mono ?_
  rintro e w2 ⟨x, rfl, hxc, hok, hsm, hm⟩
  have HX := Lib.hid (And.intro hxc (And.intro hok hsm))
  have HM := Lib.hid (HL1.out.mod0 hm)
  have HM15 := Lib.hid hm
  clear hxc hok hsm hm
  go_wp2_with fail
  go_at_call 9
  refine (addR_c HM.out.bh HM.out.bo.h0 HM.out.tab f0 HX.out.2.1 HX.out.2.2 1).mono ?_
  rintro e w3 ⟨rfl, H3⟩
  rw [HX.out.1] at H3
  obtain ⟨T3, L3, _⟩ := HM.out.then (S' := S1) H3
  have HL3 := Lib.hid L3
  clear H3 L3 HX HM
  go_wp2_with fail
  go_at_call 10
  refine (ready_c 9 2 w3).mono ?_
  rintro e w4 ⟨x, rfl, hxc, hok, hsm, hm⟩
  have HX := Lib.hid (And.intro hxc (And.intro hok hsm))
  have HM := Lib.hid (HL3.out.mod0 hm)
  have HM15 := Lib.hid hm
  clear hxc hok hsm hm
  go_wp2_with fail
  go_at_call 9
  refine (addR_c HM.out.bh HM.out.bo.h0 HM.out.tab f1 HX.out.2.1 HX.out.2.2 2).mono ?_
  rintro e w5 ⟨rfl, H5⟩
  rw [HX.out.1] at H5
  obtain ⟨T5, L5, _⟩ := HM.out.then (S' := S2) H5
  have HL5 := Lib.hid L5
  clear H5 L5 HX HM
  go_wp2_with fail
  go_at_call 10
  refine (ready_c 5 3 w5).mono ?_
  rintro e w6 ⟨x, rfl, hxc, hok, hsm, hm⟩
  have HX := Lib.hid (And.intro hxc (And.intro hok hsm))
  have HM := Lib.hid (HL5.out.mod0 hm)
  have HM15 := Lib.hid hm
  clear hxc hok hsm hm
  go_wp2_with fail
  go_at_call 9
  refine (addL_c HM.out.bh rfl q2 r2 (i := 0) (x' := Im 1 5 1 0) rfl rfl HX.out.2.1 HX.out.2.2 3 ?hA).mono ?_
  case hA =>
    have : x.prio = 5 := by have := congrArg RdC.prio HX.out.1; exact this
    rw [this]
    decide
  rintro e w7 ⟨rfl, m7⟩
  have HL7 := Lib.hid (HM.out.mod0 m7)
  clear m7 HX HM
  go_wp2_with fail
  go_at_call 10
  refine (ready_c 7 4 w7).mono ?_
  rintro e w8 ⟨x, rfl, hxc, hok, hsm, hm⟩
  have HX := Lib.hid (And.intro hxc (And.intro hok hsm))
  have HM := Lib.hid (HL7.out.mod0 hm)
  have HM15 := Lib.hid hm
  clear hxc hok hsm hm
  go_wp2_with fail
  go_at_call 9
  refine (addO_c HM.out.bh HM.out.bo.h0 HM.out.tab rfl q2 r2 (i := 0) (x' := Im 1 5 1 0) rfl rfl rfl HX.out.2.1 HX.out.2.2 4 ?hA).mono ?_
  case hA =>
    have : x.prio = 7 := by have := congrArg RdC.prio HX.out.1; exact this
    rw [this]
    decide
  rintro e w9 ⟨v, rfl, hv, T', H9, hvT⟩
  rw [HX.out.1] at H9
  have HL9 : Hid (LS w b S3 T' w9) := Lib.hid (HM.out.from1 (H9.bo HM.out.bo.h0))
  obtain ⟨a, rfl, hva, _⟩ := hv.at
  have HV := Lib.hid hva
  have hb1 : ∀ w, (Instr.buildSlice 22 1 #[(0, .int .u64 1)]).run Tryd.prog w = .ok (.slice (some ⟨w.heap.size, 0, none⟩) 1 1) (w.alloc (.cells (nc 1) 30)) := bsU64 1
  clear H9 hvT hv hva HX HM
  go_upto_region 6 with fail
  refine wp_gpass0 (T0 := fun _ => False) (K := fun _ _ => True) (κ := fun i => [0, 0, 0, 0, 0, 0, 0, 0, 0, 0, 0, 0, 0, 0, 0, 0, 0, 0, 0, 0, 0, 0, 0, 0, 0, 0, 0, 0, 0, 0, 0, 0, 3, 6, 0, 0].getD i 0) (υ := fun i => [[], [], [], [], [], [], [], [], [], [], [], [], [], [], [], [], [], [], [], [], [], [], [], [], [], [], [], [], [], [], [], [], [], [83], [], []].getD i []) [0, 1, 2, 3, 4, 5, 6, 7, 8, 9, 10, 11, 12, 13, 14, 15, 16, 17, 18, 19, 20, 21, 22, 23, 24, 25, 26, 27, 28, 29, 30, 31, 32, 33, 34, 35] (by kernel_rfl) (by kernel_rfl) (Good.true).cl (trivial) (fun _ h => h.elim) ?_
  have gK := Good.true
  (refine TG.v0 (v := ?v1) (by simp only [zA, zB, zC]; rfl) rfl ?hw1 (fun w1 => ?hy1) ?hn1; (case hw1 => rfl); (case hy1 => (go_simp; (try with_reducible rfl))); (try simp only [Act.put, zF, zG, zH]))
  (refine TG.v0 (v := ?v2) (by simp only [zA, zB, zC]; rfl) rfl ?hw2 (fun w1 => ?hy2) ?hn2; (case hw2 => rfl); (case hy2 => (go_simp; (try with_reducible rfl))); (try simp only [Act.put, zF, zG, zH]))
  (refine TG.v0 (v := ?v3) (by simp only [zA, zB, zC]; rfl) rfl ?hw3 (fun w1 => ?hy3) ?hn3; (case hw3 => rfl); (case hy3 => (go_simp; (try with_reducible rfl))); (try simp only [Act.put, zF, zG, zH]))
  (refine TG.v0 (v := ?v4) (by simp only [zA, zB, zC]; rfl) rfl ?hw4 (fun w1 => ?hy4) ?hn4; (case hw4 => rfl); (case hy4 => (go_simp; (try with_reducible rfl))); (try simp only [Act.put, zF, zG, zH]))
  (refine TG.v0 (v := ?v5) (by simp only [zA, zB, zC]; rfl) rfl ?hw5 (fun w1 => ?hy5) ?hn5; (case hw5 => rfl); (case hy5 => (go_simp; (try with_reducible rfl))); (try simp only [Act.put, zF, zG, zH]))
  (refine TG.v0 (v := ?v6) (by simp only [zA, zB, zC]; rfl) rfl ?hw6 (fun w1 => ?hy6) ?hn6; (case hw6 => rfl); (case hy6 => (go_simp; (try with_reducible rfl))); (try simp only [Act.put, zF, zG, zH]))
  (refine TG.v0 (v := ?v7) (by simp only [zA, zB, zC]; rfl) rfl ?hw7 (fun w1 => ?hy7) ?hn7; (case hw7 => rfl); (case hy7 => (go_simp; (try with_reducible rfl))); (try simp only [Act.put, zF, zG, zH]))
  (refine TG.v0 (v := ?v8) (by simp only [zA, zB, zC]; rfl) rfl ?hw8 (fun w1 => ?hy8) ?hn8; (case hw8 => rfl); (case hy8 => (go_simp; (try with_reducible rfl))); (try simp only [Act.put, zF, zG, zH]))
  (refine TG.v0 (v := ?v9) (by simp only [zA, zB, zC]; rfl) rfl ?hw9 (fun w1 => ?hy9) ?hn9; (case hw9 => rfl); (case hy9 => (go_simp; (try with_reducible rfl))); (try simp only [Act.put, zF, zG, zH]))
  (refine TG.v0 (v := ?v10) (by simp only [zA, zB, zC]; rfl) rfl ?hw10 (fun w1 => ?hy10) ?hn10; (case hw10 => rfl); (case hy10 => (go_simp; (try with_reducible rfl))); (try simp only [Act.put, zF, zG, zH]))
  (refine TG.v0 (v := ?v11) (by simp only [zA, zB, zC]; rfl) rfl ?hw11 (fun w1 => ?hy11) ?hn11; (case hw11 => rfl); (case hy11 => (go_simp; (try with_reducible rfl))); (try simp only [Act.put, zF, zG, zH]))
  (refine TG.v0 (v := ?v12) (by simp only [zA, zB, zC]; rfl) rfl ?hw12 (fun w1 => ?hy12) ?hn12; (case hw12 => rfl); (case hy12 => (go_simp; (try with_reducible rfl))); (try simp only [Act.put, zF, zG, zH]))
  (refine TG.v0 (v := ?v13) (by simp only [zA, zB, zC]; rfl) rfl ?hw13 (fun w1 => ?hy13) ?hn13; (case hw13 => rfl); (case hy13 => (go_simp; (try with_reducible rfl))); (try simp only [Act.put, zF, zG, zH]))
  (refine TG.v0 (v := ?v14) (by simp only [zA, zB, zC]; rfl) rfl ?hw14 (fun w1 => ?hy14) ?hn14; (case hw14 => rfl); (case hy14 => (go_simp; (try with_reducible rfl))); (try simp only [Act.put, zF, zG, zH]))
  (refine TG.v0 (v := ?v15) (by simp only [zA, zB, zC]; rfl) rfl ?hw15 (fun w1 => ?hy15) ?hn15; (case hw15 => rfl); (case hy15 => (go_simp; (try with_reducible rfl))); (try simp only [Act.put, zF, zG, zH]))
  (refine TG.v0 (v := ?v16) (by simp only [zA, zB, zC]; rfl) rfl ?hw16 (fun w1 => ?hy16) ?hn16; (case hw16 => rfl); (case hy16 => (go_simp; (try with_reducible rfl))); (try simp only [Act.put, zF, zG, zH]))
  (refine TG.v0 (v := ?v17) (by simp only [zA, zB, zC]; rfl) rfl ?hw17 (fun w1 => ?hy17) ?hn17; (case hw17 => rfl); (case hy17 => (go_simp; (try with_reducible rfl))); (try simp only [Act.put, zF, zG, zH]))
  (refine TG.v0 (v := ?v18) (by simp only [zA, zB, zC]; rfl) rfl ?hw18 (fun w1 => ?hy18) ?hn18; (case hw18 => rfl); (case hy18 => (go_simp; (try with_reducible rfl))); (try simp only [Act.put, zF, zG, zH]))
  (refine TG.v0 (v := ?v19) (by simp only [zA, zB, zC]; rfl) rfl ?hw19 (fun w1 => ?hy19) ?hn19; (case hw19 => rfl); (case hy19 => (go_simp; (try with_reducible rfl))); (try simp only [Act.put, zF, zG, zH]))
  (refine TG.v0 (v := ?v20) (by simp only [zA, zB, zC]; rfl) rfl ?hw20 (fun w1 => ?hy20) ?hn20; (case hw20 => rfl); (case hy20 => (go_simp; (try with_reducible rfl))); (try simp only [Act.put, zF, zG, zH]))
  (refine TG.v0 (v := ?v21) (by simp only [zA, zB, zC]; rfl) rfl ?hw21 (fun w1 => ?hy21) ?hn21; (case hw21 => rfl); (case hy21 => (go_simp; (try with_reducible rfl))); (try simp only [Act.put, zF, zG, zH]))
  (refine TG.v0 (v := ?v22) (by simp only [zA, zB, zC]; rfl) rfl ?hw22 (fun w1 => ?hy22) ?hn22; (case hw22 => rfl); (case hy22 => (go_simp; (try with_reducible rfl))); (try simp only [Act.put, zF, zG, zH]))
  (refine TG.v0 (v := ?v23) (by simp only [zA, zB, zC]; rfl) rfl ?hw23 (fun w1 => ?hy23) ?hn23; (case hw23 => rfl); (case hy23 => (go_simp; (try with_reducible rfl))); (try simp only [Act.put, zF, zG, zH]))
  (refine TG.v0 (v := ?v24) (by simp only [zA, zB, zC]; rfl) rfl ?hw24 (fun w1 => ?hy24) ?hn24; (case hw24 => rfl); (case hy24 => (go_simp; (try with_reducible rfl))); (try simp only [Act.put, zF, zG, zH]))
  (refine TG.v0 (v := ?v25) (by simp only [zA, zB, zC]; rfl) rfl ?hw25 (fun w1 => ?hy25) ?hn25; (case hw25 => rfl); (case hy25 => (go_simp; (try with_reducible rfl))); (try simp only [Act.put, zF, zG, zH]))
  (refine TG.v0 (v := ?v26) (by simp only [zA, zB, zC]; rfl) rfl ?hw26 (fun w1 => ?hy26) ?hn26; (case hw26 => rfl); (case hy26 => (go_simp; (try with_reducible rfl))); (try simp only [Act.put, zF, zG, zH]))
  (refine TG.v0 (v := ?v27) (by simp only [zA, zB, zC]; rfl) rfl ?hw27 (fun w1 => ?hy27) ?hn27; (case hw27 => rfl); (case hy27 => (go_simp; (try with_reducible rfl))); (try simp only [Act.put, zF, zG, zH]))
  (refine TG.v0 (v := ?v28) (by simp only [zA, zB, zC]; rfl) rfl ?hw28 (fun w1 => ?hy28) ?hn28; (case hw28 => rfl); (case hy28 => (go_simp; (try with_reducible rfl))); (try simp only [Act.put, zF, zG, zH]))
  (refine TG.v0 (v := ?v29) (by simp only [zA, zB, zC]; rfl) rfl ?hw29 (fun w1 => ?hy29) ?hn29; (case hw29 => rfl); (case hy29 => (go_simp; (try with_reducible rfl))); (try simp only [Act.put, zF, zG, zH]))
  (refine TG.v0 (v := ?v30) (by simp only [zA, zB, zC]; rfl) rfl ?hw30 (fun w1 => ?hy30) ?hn30; (case hw30 => rfl); (case hy30 => (go_simp; (try with_reducible rfl))); (try simp only [Act.put, zF, zG, zH]))
  (refine TG.v0 (v := ?v31) (by simp only [zA, zB, zC]; rfl) rfl ?hw31 (fun w1 => ?hy31) ?hn31; (case hw31 => rfl); (case hy31 => (go_simp; (try with_reducible rfl))); (try simp only [Act.put, zF, zG, zH]))
  (refine TG.v0 (v := ?v32) (by simp only [zA, zB, zC]; rfl) rfl ?hw32 (fun w1 => ?hy32) ?hn32; (case hw32 => rfl); (case hy32 => (go_simp; (try with_reducible rfl))); (try simp only [Act.put, zF, zG, zH]))
  (refine TG.bslice (by simp only [zA, zB, zC]; rfl) rfl ?hw33 rfl rfl ?hx33 hb1 (fun p83 hp83 _ => ?hn33); (case hw33 => rfl); (case hx33 => (simp only [List.map_toArray, List.map_cons, List.map_nil, Act.eval, zD, zA, zB, zC, zE]; (try rfl))); (try simp only [Act.put, zF, zG, zH]))
  (refine TG.callN (f := ?f34) (args := ?r34) (fun v => v = .bool true) gK (by simp only [zA, zB, zC]; rfl) rfl ?hw34 (fun w1 => ?hy34) (fun T wq kq ltq hSq ub => ?hsp34) ?hn34; (case hw34 => rfl); (case hy34 => (go_simp; (first | with_reducible rfl | (constructor <;> with_reducible rfl)))); (case hsp34 => (have kp83 := ub.box (p := p83) (by first | exact Bx.set_same _ _ _ | (simp only [Bx.set_same]; rfl)) (by first | decide | exact List.mem_singleton.2 rfl | simp); dsimp only [Value.cells] at kp83; have nUp83 := (ub p83 _ (by first | exact Bx.set_same _ _ _ | (simp only [Bx.set_same]; rfl)) (by first | decide | exact List.mem_singleton.2 rfl | simp)).1; exact (numbA_c (l := [1]) (m := [1]) (HV.out.mod0 hSq) (SlAt.one kp83 1 rfl rfl) (by decide) (by decide)).mono (fun e w' h => ⟨_, h.1, rfl, h.2⟩))); rintro v34 hC; subst hC; (try simp only [Act.put, zF, zG, zH]))
  (refine TG.v0 (v := ?v35) (by simp only [zA, zB, zC]; rfl) rfl ?hw35 (fun w1 => ?hy35) ?hn35; (case hw35 => rfl); (case hy35 => (go_simp; (try with_reducible rfl))); (try simp only [Act.put, zF, zG, zH]))
  (refine TG.v0 (v := ?v36) (by simp only [zA, zB, zC]; rfl) rfl ?hw36 (fun w1 => ?hy36) ?hn36; (case hw36 => rfl); (case hy36 => (go_simp; (try with_reducible rfl))); (try simp only [Act.put, zF, zG, zH]))
  refine TG.nil (fun w10 ⟨TR, hr⟩ => ?_)
  have kp83 := hr.box p83 _ (by first | exact Bx.set_same _ _ _ | (simp only [Bx.set_same]; rfl)); dsimp only [Value.cells] at kp83; obtain ⟨gp83, nTp83, kp83⟩ := kp83
  clear gK
  have HL10 := Lib.hid (HL9.out.mod0 hr.mod)
  clear hr hb1 kp83
  go_wp2_with fail
  go_at_call 15
  refine (bpopY_c HL10.out.bh q3 r3 (i := 1) (x := Im 2 9 2 0) rfl rfl).mono ?_
  rintro e w11 ⟨rfl, H11⟩
  obtain ⟨T11, L11, _⟩ := HL10.out.then (S' := S4) H11
  have HL11 := Lib.hid L11
  clear H11 L11
  go_wp2_with fail
  go_at_call 10
  refine (ready_c 8 5 w11).mono ?_
  rintro e w12 ⟨x, rfl, hxc, hok, hsm, hm⟩
  have HX := Lib.hid (And.intro hxc (And.intro hok hsm))
  have HM := Lib.hid (HL11.out.mod0 hm)
  have HM15 := Lib.hid hm
  clear hxc hok hsm hm
  go_wp2_with fail
  go_at_call 9
  refine (addO_c HM.out.bh HM.out.bo.h0 HM.out.tab rfl q4 r4 (i := 0) (x' := Im 4 7 4 0) rfl rfl rfl HX.out.2.1 HX.out.2.2 5 ?hA).mono ?_
  case hA =>
    have : x.prio = 8 := by have := congrArg RdC.prio HX.out.1; exact this
    rw [this]
    decide
  rintro e w13 ⟨v, rfl, hv, T13, H13, hvT⟩
  rw [HX.out.1] at H13
  have HL13 : Hid (LS w b S5 T13 w13) := Lib.hid (HM.out.from1 (H13.bo HM.out.bo.h0))
  have HV13 := Lib.hid (And.intro hv hvT)
  clear H13 hvT hv HX HM
  go_wp2_with fail
  go_at_call 15
  refine (bpopY_c HL13.out.bh q5 r5 (i := 0) (x := Im 5 8 5 0) rfl rfl).mono ?_
  rintro e w14 ⟨rfl, H14⟩
  obtain ⟨T14, L14, m14, _⟩ := HL13.out.then (S' := S6) H14
  have HL14 := Lib.hid L14
  have hv := HV13.out.1.mod m14 HV13.out.2
  obtain ⟨a2, rfl, hva, _⟩ := hv.at
  have HV2 := Lib.hid hva
  clear H14 L14 m14 hv hva HV13
  go_wp2_with fail
  go_at_call 10
  refine (ready_c 99 6 w14).mono ?_
  rintro e w15 ⟨x, rfl, hxc, hok, hsm, hm⟩
  have HX := Lib.hid (And.intro hxc (And.intro hok hsm))
  have HM := Lib.hid (HL14.out.mod0 hm)
  have HM15 := Lib.hid hm
  clear hxc hok hsm hm
  go_wp2_with fail
  go_at_call 9
  have hv15 := HV2.out.mod0 (show Mod (fun _ => False) w14 w15 from HM15.out)
  refine (addN_c HM.out.bh rfl rfl HX.out.2.1 HX.out.2.2 6).mono ?_
  rintro e w16 ⟨rfl, m16⟩
  have HL16 := Lib.hid (HM.out.mod0 m16)
  have HV3 := Lib.hid (hv15.mod0 m16)
  have hb4 : ∀ w, (Instr.buildSlice 22 1 #[(0, .int .u64 4)]).run Tryd.prog w = .ok (.slice (some ⟨w.heap.size, 0, none⟩) 1 1) (w.alloc (.cells (nc 4) 30)) := bsU64 4
  clear m16 hv15 HX HM
  go_upto_region 12 with fail
  refine wp_gpass0 (T0 := fun _ => False) (K := fun _ _ => True) (κ := fun i => [0, 0, 0, 0, 0, 0, 0, 0, 0, 0, 0, 0, 3, 6, 0, 0, 0, 0, 0, 0, 0, 0, 0, 0, 0, 0, 0, 0, 0, 0, 0, 0].getD i 0) (υ := fun i => [[], [], [], [], [], [], [], [], [], [], [], [], [], [123], [], [], [], [], [], [], [], [], [], [], [], [], [], [], [], [], [], []].getD i []) [0, 1, 2, 3, 4, 5, 6, 7, 8, 9, 10, 11, 12, 13, 14, 15, 16, 17, 18, 19, 20, 21, 22, 23, 24, 25, 26, 27, 28, 29, 30, 31] (by kernel_rfl) (by kernel_rfl) (Good.true).cl (trivial) (fun _ h => h.elim) ?_
  have gK := Good.true
  (refine TG.v0 (v := ?v37) (by simp only [zA, zB, zC]; rfl) rfl ?hw37 (fun w1 => ?hy37) ?hn37; (case hw37 => rfl); (case hy37 => (go_simp; (try with_reducible rfl))); (try simp only [Act.put, zF, zG, zH]))
  (refine TG.v0 (v := ?v38) (by simp only [zA, zB, zC]; rfl) rfl ?hw38 (fun w1 => ?hy38) ?hn38; (case hw38 => rfl); (case hy38 => (go_simp; (try with_reducible rfl))); (try simp only [Act.put, zF, zG, zH]))
  (refine TG.v0 (v := ?v39) (by simp only [zA, zB, zC]; rfl) rfl ?hw39 (fun w1 => ?hy39) ?hn39; (case hw39 => rfl); (case hy39 => (go_simp; (try with_reducible rfl))); (try simp only [Act.put, zF, zG, zH]))
  (refine TG.v0 (v := ?v40) (by simp only [zA, zB, zC]; rfl) rfl ?hw40 (fun w1 => ?hy40) ?hn40; (case hw40 => rfl); (case hy40 => (go_simp; (try with_reducible rfl))); (try simp only [Act.put, zF, zG, zH]))
  (refine TG.v0 (v := ?v41) (by simp only [zA, zB, zC]; rfl) rfl ?hw41 (fun w1 => ?hy41) ?hn41; (case hw41 => rfl); (case hy41 => (go_simp; (try with_reducible rfl))); (try simp only [Act.put, zF, zG, zH]))
  (refine TG.v0 (v := ?v42) (by simp only [zA, zB, zC]; rfl) rfl ?hw42 (fun w1 => ?hy42) ?hn42; (case hw42 => rfl); (case hy42 => (go_simp; (try with_reducible rfl))); (try simp only [Act.put, zF, zG, zH]))
  (refine TG.v0 (v := ?v43) (by simp only [zA, zB, zC]; rfl) rfl ?hw43 (fun w1 => ?hy43) ?hn43; (case hw43 => rfl); (case hy43 => (go_simp; (try with_reducible rfl))); (try simp only [Act.put, zF, zG, zH]))
  (refine TG.v0 (v := ?v44) (by simp only [zA, zB, zC]; rfl) rfl ?hw44 (fun w1 => ?hy44) ?hn44; (case hw44 => rfl); (case hy44 => (go_simp; (try with_reducible rfl))); (try simp only [Act.put, zF, zG, zH]))
  (refine TG.v0 (v := ?v45) (by simp only [zA, zB, zC]; rfl) rfl ?hw45 (fun w1 => ?hy45) ?hn45; (case hw45 => rfl); (case hy45 => (go_simp; (try with_reducible rfl))); (try simp only [Act.put, zF, zG, zH]))
  (refine TG.v0 (v := ?v46) (by simp only [zA, zB, zC]; rfl) rfl ?hw46 (fun w1 => ?hy46) ?hn46; (case hw46 => rfl); (case hy46 => (go_simp; (try with_reducible rfl))); (try simp only [Act.put, zF, zG, zH]))
  (refine TG.v0 (v := ?v47) (by simp only [zA, zB, zC]; rfl) rfl ?hw47 (fun w1 => ?hy47) ?hn47; (case hw47 => rfl); (case hy47 => (go_simp; (try with_reducible rfl))); (try simp only [Act.put, zF, zG, zH]))
  (refine TG.v0 (v := ?v48) (by simp only [zA, zB, zC]; rfl) rfl ?hw48 (fun w1 => ?hy48) ?hn48; (case hw48 => rfl); (case hy48 => (go_simp; (try with_reducible rfl))); (try simp only [Act.put, zF, zG, zH]))
  (refine TG.bslice (by simp only [zA, zB, zC]; rfl) rfl ?hw49 rfl rfl ?hx49 hb4 (fun p123 hp123 _ => ?hn49); (case hw49 => rfl); (case hx49 => (simp only [List.map_toArray, List.map_cons, List.map_nil, Act.eval, zD, zA, zB, zC, zE]; (try rfl))); (try simp only [Act.put, zF, zG, zH]))
  (refine TG.callN (f := ?f50) (args := ?r50) (fun v => v = .bool true) gK (by simp only [zA, zB, zC]; rfl) rfl ?hw50 (fun w1 => ?hy50) (fun T wq kq ltq hSq ub => ?hsp50) ?hn50; (case hw50 => rfl); (case hy50 => (go_simp; (first | with_reducible rfl | (constructor <;> with_reducible rfl)))); (case hsp50 => (have kp123 := ub.box (p := p123) (by first | exact Bx.set_same _ _ _ | (simp only [Bx.set_same]; rfl)) (by first | decide | exact List.mem_singleton.2 rfl | simp); dsimp only [Value.cells] at kp123; have nUp123 := (ub p123 _ (by first | exact Bx.set_same _ _ _ | (simp only [Bx.set_same]; rfl)) (by first | decide | exact List.mem_singleton.2 rfl | simp)).1; exact (numbA_c (l := [4]) (m := [4]) (HV3.out.mod0 hSq) (SlAt.one kp123 4 rfl rfl) (by decide) (by decide)).mono (fun e w' h => ⟨_, h.1, rfl, h.2⟩))); rintro v50 hC; subst hC; (try simp only [Act.put, zF, zG, zH]))
  (refine TG.v0 (v := ?v51) (by simp only [zA, zB, zC]; rfl) rfl ?hw51 (fun w1 => ?hy51) ?hn51; (case hw51 => rfl); (case hy51 => (go_simp; (try with_reducible rfl))); (try simp only [Act.put, zF, zG, zH]))
  (refine TG.v0 (v := ?v52) (by simp only [zA, zB, zC]; rfl) rfl ?hw52 (fun w1 => ?hy52) ?hn52; (case hw52 => rfl); (case hy52 => (go_simp; (try with_reducible rfl))); (try simp only [Act.put, zF, zG, zH]))
  (refine TG.v0 (v := ?v53) (by simp only [zA, zB, zC]; rfl) rfl ?hw53 (fun w1 => ?hy53) ?hn53; (case hw53 => rfl); (case hy53 => (go_simp; (try with_reducible rfl))); (try simp only [Act.put, zF, zG, zH]))
  (refine TG.v0 (v := ?v54) (by simp only [zA, zB, zC]; rfl) rfl ?hw54 (fun w1 => ?hy54) ?hn54; (case hw54 => rfl); (case hy54 => (go_simp; (try with_reducible rfl))); (try simp only [Act.put, zF, zG, zH]))
  (refine TG.v0 (v := ?v55) (by simp only [zA, zB, zC]; rfl) rfl ?hw55 (fun w1 => ?hy55) ?hn55; (case hw55 => rfl); (case hy55 => (go_simp; (try with_reducible rfl))); (try simp only [Act.put, zF, zG, zH]))
  (refine TG.v0 (v := ?v56) (by simp only [zA, zB, zC]; rfl) rfl ?hw56 (fun w1 => ?hy56) ?hn56; (case hw56 => rfl); (case hy56 => (go_simp; (try with_reducible rfl))); (try simp only [Act.put, zF, zG, zH]))
  (refine TG.v0 (v := ?v57) (by simp only [zA, zB, zC]; rfl) rfl ?hw57 (fun w1 => ?hy57) ?hn57; (case hw57 => rfl); (case hy57 => (go_simp; (try with_reducible rfl))); (try simp only [Act.put, zF, zG, zH]))
  (refine TG.v0 (v := ?v58) (by simp only [zA, zB, zC]; rfl) rfl ?hw58 (fun w1 => ?hy58) ?hn58; (case hw58 => rfl); (case hy58 => (go_simp; (try with_reducible rfl))); (try simp only [Act.put, zF, zG, zH]))
  (refine TG.v0 (v := ?v59) (by simp only [zA, zB, zC]; rfl) rfl ?hw59 (fun w1 => ?hy59) ?hn59; (case hw59 => rfl); (case hy59 => (go_simp; (try with_reducible rfl))); (try simp only [Act.put, zF, zG, zH]))
  (refine TG.v0 (v := ?v60) (by simp only [zA, zB, zC]; rfl) rfl ?hw60 (fun w1 => ?hy60) ?hn60; (case hw60 => rfl); (case hy60 => (go_simp; (try with_reducible rfl))); (try simp only [Act.put, zF, zG, zH]))
  (refine TG.v0 (v := ?v61) (by simp only [zA, zB, zC]; rfl) rfl ?hw61 (fun w1 => ?hy61) ?hn61; (case hw61 => rfl); (case hy61 => (go_simp; (try with_reducible rfl))); (try simp only [Act.put, zF, zG, zH]))
  (refine TG.v0 (v := ?v62) (by simp only [zA, zB, zC]; rfl) rfl ?hw62 (fun w1 => ?hy62) ?hn62; (case hw62 => rfl); (case hy62 => (go_simp; (try with_reducible rfl))); (try simp only [Act.put, zF, zG, zH]))
  (refine TG.v0 (v := ?v63) (by simp only [zA, zB, zC]; rfl) rfl ?hw63 (fun w1 => ?hy63) ?hn63; (case hw63 => rfl); (case hy63 => (go_simp; (try with_reducible rfl))); (try simp only [Act.put, zF, zG, zH]))
  (refine TG.v0 (v := ?v64) (by simp only [zA, zB, zC]; rfl) rfl ?hw64 (fun w1 => ?hy64) ?hn64; (case hw64 => rfl); (case hy64 => (go_simp; (try with_reducible rfl))); (try simp only [Act.put, zF, zG, zH]))
  (refine TG.v0 (v := ?v65) (by simp only [zA, zB, zC]; rfl) rfl ?hw65 (fun w1 => ?hy65) ?hn65; (case hw65 => rfl); (case hy65 => (go_simp; (try with_reducible rfl))); (try simp only [Act.put, zF, zG, zH]))
  (refine TG.v0 (v := ?v66) (by simp only [zA, zB, zC]; rfl) rfl ?hw66 (fun w1 => ?hy66) ?hn66; (case hw66 => rfl); (case hy66 => (go_simp; (try with_reducible rfl))); (try simp only [Act.put, zF, zG, zH]))
  (refine TG.v0 (v := ?v67) (by simp only [zA, zB, zC]; rfl) rfl ?hw67 (fun w1 => ?hy67) ?hn67; (case hw67 => rfl); (case hy67 => (go_simp; (try with_reducible rfl))); (try simp only [Act.put, zF, zG, zH]))
  (refine TG.v0 (v := ?v68) (by simp only [zA, zB, zC]; rfl) rfl ?hw68 (fun w1 => ?hy68) ?hn68; (case hw68 => rfl); (case hy68 => (go_simp; (try with_reducible rfl))); (try simp only [Act.put, zF, zG, zH]))
  refine TG.nil (fun w17 ⟨TR, hr⟩ => ?_)
  have kp123 := hr.box p123 _ (by first | exact Bx.set_same _ _ _ | (simp only [Bx.set_same]; rfl)); dsimp only [Value.cells] at kp123; obtain ⟨gp123, nTp123, kp123⟩ := kp123
  clear gK
  have HL17 := Lib.hid (HL16.out.mod0 hr.mod)
  clear hr hb4 kp123
  have hi0 : ∀ w, (Instr.buildSlice 51 1 #[(0, .int .i64 0)]).run Tryd.prog w = .ok (.slice (some ⟨w.heap.size, 0, none⟩) 1 1) (w.alloc (.cells (ic (idn 0)) 3)) := bsIntL 0 (idn 0) rfl
  have hi1 : ∀ w, (Instr.buildSlice 51 1 #[(0, .int .i64 1)]).run Tryd.prog w = .ok (.slice (some ⟨w.heap.size, 0, none⟩) 1 1) (w.alloc (.cells (ic (idn 1)) 3)) := bsIntL 1 (idn 1) rfl
  go_wp2_with fail
  go_at_call 18
  refine (BackY_c HL17.out.bh (i := 0) (x := Im 5 8 5 1) rfl (by decide)).mono ?_
  rintro e w18 ⟨rfl, H18⟩
  obtain ⟨T18, L18, _⟩ := HL17.out.then (S' := S7) H18
  have HL18 := Lib.hid L18
  clear H18 L18
  go_wp2_with fail
  go_at_call 18
  refine (BackX_c HL18.out.bh (i := 0) (x := Im 5 8 5 0) rfl rfl).mono ?_
  rintro e w19 ⟨rfl, m19⟩
  have HL19 := Lib.hid (HL18.out.mod0 m19)
  clear m19
  go_wp2_with fail
  go_at_call 17
  refine (ParkY_c HL19.out.bh (i := 1) (x := Im 2 9 2 1) rfl rfl).mono ?_
  rintro e w20 ⟨rfl, H20⟩
  obtain ⟨T20, L20, _⟩ := HL19.out.then (S' := S8) H20
  have HL20 := Lib.hid L20
  clear H20 L20
  go_wp2_with fail
  go_at_call 12
  refine (bwait_c HL20.out.bh q8 r5).mono ?_
  rintro e w21 ⟨v, rfl, hv, m21⟩
  obtain ⟨a3, c3, rfl, hva, _⟩ := hv.at intT
  have HL21 := Lib.hid (HL20.out.mod0 m21)
  have HV4 := Lib.hid hva
  clear m21 hv hva
  go_wp2_with fail
  go_at_call 19
  refine (sameA_c (l := [idn 0]) (m := [idn 0]) (HV4.out.mod0 (.alloc (.refl _ _) _)) (SlAt.one (heap_alloc_new _ _) (idn 0) rfl rfl) (by decide) (by decide)).mono ?_
  rintro e w22 ⟨rfl, m22⟩
  have HL22 := Lib.hid (HL21.out.mod0 (.trans (.alloc (.refl _ _) _) m22))
  clear m22
  go_wp2_with fail
  go_at_call 20
  refine (bparked_c HL22.out.bh HL22.out.tab).mono ?_
  rintro e w23 ⟨v, rfl, hv, m23⟩
  rw [show (pkd S8).map idn = [idn 1] from rfl] at hv
  obtain ⟨a5, rfl, hva, _⟩ := hv.at
  have HL23 := Lib.hid (HL22.out.mod0 m23)
  have HV5 := Lib.hid hva
  clear m23 hv hva
  go_wp2_with fail
  go_at_call 19
  refine (sameA_c (l := [idn 1]) (m := [idn 1]) (HV5.out.mod0 (.alloc (.refl _ _) _)) (SlAt.one (heap_alloc_new _ _) (idn 1) rfl rfl) (by decide) (by decide)).mono ?_
  rintro e w24 ⟨rfl, m24⟩
  have HL24 := Lib.hid (HL23.out.mod0 (.trans (.alloc (.refl _ _) _) m24))
  clear m24
  go_wp2_with fail
  go_ret
  exact ⟨rfl, HL24.out.m⟩
end Go.Proofs.YtdeghpmlhcaedaaDoor
