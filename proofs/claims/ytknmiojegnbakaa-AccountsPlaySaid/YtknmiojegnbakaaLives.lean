/- The law's own 'lives'. -/
import Derived.Test.YtknmiojegnbakaaSame
namespace Go.Proofs.Ytknmiojegnbakaa
open Go.RowKit
open Go.ChangeMaps (setBlock)
set_option linter.unusedSimpArgs false
set_option linter.unusedVariables false
attribute [local go_sem ↓] wlKey ldKey stKey wlAcct ldAcct stAcct wlHold ldHold stHold eqKey1 eqAcct eqHold
attribute [local go_sem] eqMap neMap av_size av_c av_s av_c' av_s' av_o av_all av_one hd_size hd_key hd_acct hd_all hd_one zKey_size zAcct_size zHold_size cell_blk frozen_blk kc_ext one_int one_bool one_ptr one_slice one_map kc_one kc_one0 kc_size Value.cells
theorem eff_callP {P : Program} {ops : Array Oper} {Q : Exit → Act → World → Prop} {κ : Nat → Nat} {i : Nat} {r : List Nat} {a : Act} {o : Oper} {w : World} {f : FuncId} {args : Array Value} {v : Value} {Post : World → Prop} (ho : ops[i]? = some o) (hw : Region.wanted o (yielded ops a.tmps) = true)
    (hy : (execOp a.eval o).run P w = .ok (.enter f args) w) (hc : Calls P f args w fun e w' => e = .returned v ∧ Post w') (hn : ∀ w', Post w' → TE P ops Q κ r (a.put o.dst v) w') : wpOp P ops Q i (fun a' w'' => TE P ops Q κ r a' w'') a w := by
  unfold wpOp
  simp only [ho, hw, if_true]
  refine .inl ?_
  unfold Oper.wp
  rw [hy]
  refine hc.mono ?_
  rintro e w' ⟨rfl, hp⟩
  exact hn w' hp
theorem encC {A A' : Value} {z z' : Array Value} {p p' : Nat} (h : #[A, Value.agg z, .int .i64 (p : Int)] = #[A', Value.agg z', .int .i64 (p' : Int)]) : z = z' ∧ p = p' := by
  simp only [Array.mk.injEq, List.cons.injEq, Value.agg.injEq, Value.int.injEq, true_and, and_true] at h
  exact ⟨h.2.1, by omega⟩
theorem SlAt.oneAt {α : Type} {f : α → Array Value} {n : Nat} {w : World} {p o : Nat} {z : Array Value} {T : TypeId} {fr : Nat × Nat} (hb : w.heap[p]? = some (.cells z T fr)) (x : α) (hz : z.extract o (o + n) = f x) (hs : o + n ≤ z.size) : SlAt f n w (some ⟨p, o, none⟩) [x] := by
  refine .inr ⟨p, o, z, T, fr, rfl, hb, fun i y hy => ?_⟩
  match i with
  | 0 =>
    obtain rfl : x = y := by simpa using hy
    simpa using ⟨hz, hs⟩
  | i + 1 => simp at hy
def k1 : Key := ⟨[1, 0, 0, 0, 0, 0, 0, 0, 0, 0, 0, 0, 0, 0, 0, 0, 0, 0, 0, 0, 0, 0, 0, 0, 0, 0, 0, 0, 0, 0, 0, 0], rfl⟩
def k2 : Key := ⟨[2, 0, 0, 0, 0, 0, 0, 0, 0, 0, 0, 0, 0, 0, 0, 0, 0, 0, 0, 0, 0, 0, 0, 0, 0, 0, 0, 0, 0, 0, 0, 0], rfl⟩
def a5 : Acct := ⟨5, key0, 0⟩
def a7 : Acct := ⟨7, key0, 0⟩
theorem bk1 (w : World) : (Instr.build 28 #[(0, .int .u8 1)]).run Try.prog w = .ok (.agg (kc k1)) w := by kernel_rfl
theorem bk2 (w : World) : (Instr.build 28 #[(0, .int .u8 2)]).run Try.prog w = .ok (.agg (kc k2)) w := by kernel_rfl
theorem ba5 (w : World) : (Instr.build 31 #[(0, .int .u64 5)]).run Try.prog w = .ok (.agg (av a5)) w := by kernel_rfl
theorem ba7 (w : World) : (Instr.build 31 #[(0, .int .u64 7)]).run Try.prog w = .ok (.agg (av a7)) w := by kernel_rfl
structure LS (w0 w : World) (p b p2 p3 : Nat) (m : List (Key × Acct)) : Prop where
  T : StAt w p b m
  k1 : w.heap[p2]? = some (.cells (kc k1) 28 (0, 0))
  k2 : w.heap[p3]? = some (.cells (kc k2) 28 (0, 0))
  m : Mod (fun _ => False) w0 w
  hb : w0.heap.size ≤ b
theorem LS.put {w0 w : World} {p b p2 p3 : Nat} {m : List (Key × Acct)} (h : LS w0 w p b p2 p3 m) (k : Key) (a : Acct) (m' : List (Key × Acct)) (hm : putA m k a = m') :
    Calls Try.prog 13 #[.pointer (some ⟨p, 0, none⟩), .agg (kc k), .agg (av a)] w fun e w' => e = .returned (.int .i64 0) ∧ LS w0 w' p b p2 p3 m' := by
  subst hm
  obtain ⟨kp, es, c, kb, M⟩ := id h.T
  have n2 : p2 ≠ b := ne_of_obj h.k1 kb (by simp)
  have n3 : p3 ≠ b := ne_of_obj h.k2 kb (by simp)
  refine (put_c p b m k a w h.T).mono ?_
  rintro e w' ⟨he, hT, hm⟩
  exact ⟨he, hT, hm.at h.k1 n2, hm.at h.k2 n3, h.m.then hm (fun i hi e => by have := h.hb; omega), h.hb⟩
set_option maxRecDepth 20000 in
set_option maxHeartbeats 1600000 in
theorem lives_c (w : World) : Calls Try.prog 8 #[] w fun e w' => e = .returned (.bool true) ∧ Mod (fun _ => False) w w' := by
  have b1 := bk1
  have b2 := bk2
  have c5 := ba5
  have c7 := ba7
  have c0 := build0
  go_enter Try.func8, Try.ntmps8
  go_upto_region 2 with (go_at_call 14; refine (newS_c _).mono ?_; rintro e w1 ⟨p, b, rfl, hp, hb, hT, m1⟩)
  have HT := Lib.hid hT
  have HPB := Lib.hid (And.intro hp hb)
  clear hT hp hb
  refine wp_pass0 (C := fun _ _ _ => False) (κ := fun i => [0, 3, 4].getD i 0) [0, 1, 2] (by kernel_rfl) (by kernel_rfl) (fun _ _ d _ _ h => by cases d <;> exact h) ?_
  (refine TD.build (v := ?v1) (ps := ?p1) (by simp only [List.getElem?_toArray, List.getElem?_cons_succ, List.getElem?_cons_zero]; rfl) rfl ?hw1 rfl ?hx1 (fun w1 => ?hy1) ?hn1; (case hw1 => rfl); (case hx1 => (simp only [List.map_toArray, List.map_cons, List.map_nil, Act.eval, Array.getD_eq_getD_getElem?, List.getElem?_toArray, List.getElem?_cons_succ, List.getElem?_cons_zero, Option.getD_some]; (try rfl))); (case hy1 => (rw [b1]; (try with_reducible rfl))); (try simp only [Act.put, List.setIfInBounds_toArray, List.set_cons_zero, List.set_cons_succ]))
  (refine TD.allocB (by simp only [List.getElem?_toArray, List.getElem?_cons_succ, List.getElem?_cons_zero]; rfl) rfl ?hw2 rfl rfl alKey (fun p2 hp2 => ?hn2); (case hw2 => rfl); (try simp only [Act.put, List.setIfInBounds_toArray, List.set_cons_zero, List.set_cons_succ]))
  (refine TD.storeB (d := ?d3) (T := ?T3) (y := ?y3) (p := ?p3) (b := ?b3) (v := ?v3) (by simp only [List.getElem?_toArray, List.getElem?_cons_succ, List.getElem?_cons_zero]; rfl) rfl ?hw3 ?hd3 ?hop3 ?hev3 ?hx3 ?hb3 ?htag3 (fun w1 hb1 => ?hy3) ?hn3; (case hw3 => rfl); (case hd3 => rfl); (case hop3 => rfl); (case hev3 => (simp only [Act.eval, Array.getD_eq_getD_getElem?, List.getElem?_toArray, List.getElem?_cons_succ, List.getElem?_cons_zero, Option.getD_some]; (try rfl))); (case hx3 => (simp only [Act.eval, Array.getD_eq_getD_getElem?, List.getElem?_toArray, List.getElem?_cons_succ, List.getElem?_cons_zero, Option.getD_some]; (try rfl))); (case hb3 => first | exact Bx.set_same _ _ _ | (simp only [Bx.set_same]; rfl)); (case hy3 => (go_simp; (try with_reducible rfl))); (try simp only [Act.put, List.setIfInBounds_toArray, List.set_cons_zero, List.set_cons_succ]))
  refine TD.nil (fun w2 hr => ?_)
  have kp2 := hr.box p2 _ (by first | exact Bx.set_same _ _ _ | (simp only [Bx.set_same]; rfl)); dsimp only [Value.cells] at kp2; obtain ⟨gp2, kp2⟩ := kp2
  have m2 := m1.then0 hr.mod
  have HT2 := Lib.hid (HT.out.mod0 hr.mod)
  clear HT m1
  go_upto_region 3 with fail
  have Lkp2 := lt_size kp2
  refine wp_pass0 (C := fun _ _ _ => False) (κ := fun i => [0, 3, 4].getD i 0) [0, 1, 2] (by kernel_rfl) (by kernel_rfl) (fun _ _ d _ _ h => by cases d <;> exact h) ?_
  (refine TD.build (v := ?v4) (ps := ?p4) (by simp only [List.getElem?_toArray, List.getElem?_cons_succ, List.getElem?_cons_zero]; rfl) rfl ?hw4 rfl ?hx4 (fun w1 => ?hy4) ?hn4; (case hw4 => rfl); (case hx4 => (simp only [List.map_toArray, List.map_cons, List.map_nil, Act.eval, Array.getD_eq_getD_getElem?, List.getElem?_toArray, List.getElem?_cons_succ, List.getElem?_cons_zero, Option.getD_some]; (try rfl))); (case hy4 => (rw [b2]; (try with_reducible rfl))); (try simp only [Act.put, List.setIfInBounds_toArray, List.set_cons_zero, List.set_cons_succ]))
  (refine TD.allocB (by simp only [List.getElem?_toArray, List.getElem?_cons_succ, List.getElem?_cons_zero]; rfl) rfl ?hw5 rfl rfl alKey (fun p3 hp3 => ?hn5); (case hw5 => rfl); (try simp only [Act.put, List.setIfInBounds_toArray, List.set_cons_zero, List.set_cons_succ]))
  (refine TD.storeB (d := ?d6) (T := ?T6) (y := ?y6) (p := ?p6) (b := ?b6) (v := ?v6) (by simp only [List.getElem?_toArray, List.getElem?_cons_succ, List.getElem?_cons_zero]; rfl) rfl ?hw6 ?hd6 ?hop6 ?hev6 ?hx6 ?hb6 ?htag6 (fun w1 hb1 => ?hy6) ?hn6; (case hw6 => rfl); (case hd6 => rfl); (case hop6 => rfl); (case hev6 => (simp only [Act.eval, Array.getD_eq_getD_getElem?, List.getElem?_toArray, List.getElem?_cons_succ, List.getElem?_cons_zero, Option.getD_some]; (try rfl))); (case hx6 => (simp only [Act.eval, Array.getD_eq_getD_getElem?, List.getElem?_toArray, List.getElem?_cons_succ, List.getElem?_cons_zero, Option.getD_some]; (try rfl))); (case hb6 => first | exact Bx.set_same _ _ _ | (simp only [Bx.set_same]; rfl)); (case hy6 => (go_simp; (try with_reducible rfl))); (try simp only [Act.put, List.setIfInBounds_toArray, List.set_cons_zero, List.set_cons_succ]))
  refine TD.nil (fun w3 hr => ?_)
  have kp2 := hr.mod.at kp2 (fun h => h)
  have kp3 := hr.box p3 _ (by first | exact Bx.set_same _ _ _ | (simp only [Bx.set_same]; rfl)); dsimp only [Value.cells] at kp3; obtain ⟨gp3, kp3⟩ := kp3
  have m3 := m2.then0 hr.mod
  have HT3 := Lib.hid (HT2.out.mod0 hr.mod)
  clear HT2 m2
  have hp1 := HPB.out.1
  have hb1 := HPB.out.2
  have hS0 : LS w w3 p b p2 p3 [] := ⟨HT3.out, kp2, kp3, m3, hb1⟩
  clear kp2 kp3 m3 hb1 hp1 HT3 b1 b2 c7
  have kk := hS0.k1
  have HS0 := Lib.hid hS0
  clear hS0
  go_wp2_with fail
  go_at_call 13
  refine (HS0.out.put k1 a5 [(k1, a5)] rfl).mono ?_
  rintro e w4 ⟨rfl, hS1⟩
  clear kk HS0
  have kk := hS1.k2
  have HS1 := Lib.hid hS1
  clear hS1
  have c7 := ba7
  clear c5
  go_wp2_with fail
  go_at_call 13
  refine (HS1.out.put k2 a7 [(k1, a5), (k2, a7)] rfl).mono ?_
  rintro e w5 ⟨rfl, hS2⟩
  clear kk HS1
  have kk := hS2.k1
  have HS2 := Lib.hid hS2
  clear hS2 c7
  go_wp2_with fail
  go_at_call 13
  refine (HS2.out.put k1 acct0 [(k2, a7)] rfl).mono ?_
  rintro e w6 ⟨rfl, hS3⟩
  clear kk HS2 c0
  have HS3 := Lib.hid hS3
  have hT := hS3.T
  clear hS3
  have hcoins : Calls Try.prog 12 #[.pointer (some ⟨p, 0, none⟩)] w6 fun e w' => e = .returned (.tuple #[.int .u64 0, .int .u64 7]) ∧ Mod (fun _ => False) w6 w' :=
    (coins_c p b _ _ hT (by decide)).mono (fun e w' h => ⟨by rw [h.1]; rfl, h.2⟩)
  clear hT
  go_wp2_with fail
  go_at_call 12
  refine hcoins.mono ?_
  rintro e w7 ⟨rfl, m7⟩
  clear hcoins
  have k7 := m7.at0 HS3.out.k2
  have HT7 := Lib.hid (HS3.out.T.mod0 m7)
  have HM7 := Lib.hid (HS3.out.m.then0 m7)
  clear m7 HS3
  have c7 := ba7
  have cH := buildHold k2 a7
  have cB := bsHold ⟨k2, a7⟩
  go_upto_region 8 with fail
  have fL : ∀ wq, Mod (fun _ => False) w7 wq → Calls Try.prog 11 #[.pointer (some ⟨p, 0, none⟩)] wq fun e w' => ∃ (q o : Nat) (z : Array Value) (T : TypeId), e = .returned (.slice (some ⟨q, o, none⟩) 1 1) ∧ z.extract o (o + 66) = hd ⟨k2, a7⟩ ∧ o + 66 ≤ z.size ∧ wq.heap.size ≤ q ∧ w'.heap[q]? = some (.cells z T (0, 0)) ∧ Mod (fun _ => False) wq w' := fun wq hq =>
    (list_c p b _ _ (sortOk1 (by decide)) wq (HT7.out.mod0 hq) (by decide)).mono (fun e w' h => by
      obtain ⟨a, l, he, hp, _, hs, hf, hn, hm⟩ := h
      obtain rfl : l = [⟨k2, a7⟩] := List.perm_singleton.1 hp
      obtain ⟨q, o, C, U, fr, rfl, hk, hz, hsz⟩ := hs.block (i := 0) rfl
      obtain ⟨C', U', hk'⟩ := hf q o rfl
      rw [hk] at hk'
      simp only [Option.some.injEq, Obj.cells.injEq] at hk'
      obtain ⟨rfl, rfl, rfl⟩ := hk'
      exact ⟨q, o, C, U, he, by simpa using hz, by simpa using hsz, hn _ rfl, hk, hm⟩)
  have FL := Lib.hid fL
  clear fL
  have hsm : ∀ (a a2 : Option Addr) (wq : World), SlAt hd 66 wq a [⟨k2, a7⟩] → SlAt hd 66 wq a2 [⟨k2, a7⟩] → Calls Try.prog 22 #[.slice a 1 1, .slice a2 1 1] wq fun e w' => e = .returned (.bool true) ∧ Mod (fun _ => False) wq w' := fun a a2 wq h1 h2 =>
    (sameH_c a a2 [⟨k2, a7⟩] [⟨k2, a7⟩] 1 1 wq h1 h2 (by decide)).mono (fun e w' h => ⟨by rw [h.1, show decide ([(⟨k2, a7⟩ : Hold)] = [⟨k2, a7⟩]) = true from decide_eq_true rfl], h.2⟩)
  have HSM := Lib.hid hsm
  clear hsm
  have Lk7 := lt_size k7
  refine wp_pass (C := fun f args v => ∃ (A : Value) (z : Array Value) (q o : Nat), args = #[A, .agg z, .int .i64 (q : Int)] ∧ v = .slice (some ⟨q, o, none⟩) 1 1 ∧ z.extract o (o + 66) = hd ⟨k2, a7⟩ ∧ o + 66 ≤ z.size) (κ := fun i => [0, 7, 1, 0, 0, 3, 5, 0, 0, 0, 0, 0, 0, 0, 0, 0].getD i 0) [0, 1, 2, 3, 4, 5, 6, 7, 8, 9, 10, 11, 12, 13, 14, 15] (by kernel_rfl) (by kernel_rfl) (fun _ _ d _ _ h => by cases d <;> exact h) ?_
  (refine TD.val0 (v := ?v7) (by simp only [List.getElem?_toArray, List.getElem?_cons_succ, List.getElem?_cons_zero]; rfl) rfl ?hw7 (fun w1 => ?hy7) ?hn7; (case hw7 => rfl); (case hy7 => (go_simp; (try with_reducible rfl))); (try simp only [Act.put, List.setIfInBounds_toArray, List.set_cons_zero, List.set_cons_succ]))
  (refine TD.cbox (f := ?f8) (args := ?r8) (by simp only [List.getElem?_toArray, List.getElem?_cons_succ, List.getElem?_cons_zero]; rfl) rfl ?hw8 rfl (fun w1 => ?hy8) ?hsp8 (fun vp9 p9 zp9 Tp9 hCp9 hp9 => ?hn8); (case hw8 => rfl); (case hy8 => (go_simp; (first | with_reducible rfl | (constructor <;> with_reducible rfl)))); (case hsp8 => (intro wq hSq; have k7q := hSq.at k7 (fun h => h); exact (FL.out wq hSq).mono (fun e w' h => by obtain ⟨p', o', z', T', he, hz, hsz, hp, hk, hm⟩ := h; exact ⟨_, p', z', T', he, ⟨_, _, _, o', rfl, rfl, hz, hsz⟩, hp, hk, hm⟩))); obtain ⟨A9, z9, q9, o9, heq, rfl, hz9, hsz9⟩ := hCp9; obtain ⟨rfl, rfl⟩ := encC heq; clear heq; (try simp only [Act.put, List.setIfInBounds_toArray, List.set_cons_zero, List.set_cons_succ]))
  (refine TD.load (v := ?v9) (p := ?p9) (Mod.refl _ _) (by simp only [List.getElem?_toArray, List.getElem?_cons_succ, List.getElem?_cons_zero]; rfl) rfl ?hw9 rfl ?hx9 (fun wq hSq => ?hy9) ?hn9; (case hw9 => rfl); (case hx9 => (simp only [Act.eval, Array.getD_eq_getD_getElem?, List.getElem?_toArray, List.getElem?_cons_succ, List.getElem?_cons_zero, Option.getD_some]; (try rfl))); (case hy9 => (have k7q := hSq.at k7 (fun h => h); go_simp; (try with_reducible rfl))); (try simp only [Act.put, List.setIfInBounds_toArray, List.set_cons_zero, List.set_cons_succ]))
  (refine TD.build (v := ?v10) (ps := ?p10) (by simp only [List.getElem?_toArray, List.getElem?_cons_succ, List.getElem?_cons_zero]; rfl) rfl ?hw10 rfl ?hx10 (fun w1 => ?hy10) ?hn10; (case hw10 => rfl); (case hx10 => (simp only [List.map_toArray, List.map_cons, List.map_nil, Act.eval, Array.getD_eq_getD_getElem?, List.getElem?_toArray, List.getElem?_cons_succ, List.getElem?_cons_zero, Option.getD_some]; (try rfl))); (case hy10 => (rw [c7]; (try with_reducible rfl))); (try simp only [Act.put, List.setIfInBounds_toArray, List.set_cons_zero, List.set_cons_succ]))
  (refine TD.build (v := ?v11) (ps := ?p11) (by simp only [List.getElem?_toArray, List.getElem?_cons_succ, List.getElem?_cons_zero]; rfl) rfl ?hw11 rfl ?hx11 (fun w1 => ?hy11) ?hn11; (case hw11 => rfl); (case hx11 => (simp only [List.map_toArray, List.map_cons, List.map_nil, Act.eval, Array.getD_eq_getD_getElem?, List.getElem?_toArray, List.getElem?_cons_succ, List.getElem?_cons_zero, Option.getD_some]; (try rfl))); (case hy11 => (rw [cH]; (try with_reducible rfl))); (try simp only [Act.put, List.setIfInBounds_toArray, List.set_cons_zero, List.set_cons_succ]))
  (refine TD.bslice (by simp only [List.getElem?_toArray, List.getElem?_cons_succ, List.getElem?_cons_zero]; rfl) rfl ?hw12 rfl rfl ?hx12 cB (fun p8 hp8 => ?hn12); (case hw12 => rfl); (case hx12 => (simp only [List.map_toArray, List.map_cons, List.map_nil, Act.eval, Array.getD_eq_getD_getElem?, List.getElem?_toArray, List.getElem?_cons_succ, List.getElem?_cons_zero, Option.getD_some]; (try rfl))); (try simp only [Act.put, List.setIfInBounds_toArray, List.set_cons_zero, List.set_cons_succ]))
  obtain ⟨ne_p8_p9, hp8⟩ := Bx.set_none hp8
  refine TD.eff (by simp only [List.getElem?_toArray, List.getElem?_cons_succ, List.getElem?_cons_zero]; rfl) rfl (fun w8 hr => ?_)
  have k7 := hr.mod.at k7 (fun h => h)
  have kp9 := hr.box p9 _ (by first | exact Bx.set_same _ _ _ | (simp only [Bx.set_ne _ (Ne.symm ne_p8_p9), Bx.set_ne _ ne_p8_p9, Bx.set_same]; rfl)); dsimp only [Value.cells] at kp9; obtain ⟨gp9, kp9⟩ := kp9
  have kp8 := hr.box p8 _ (by first | exact Bx.set_same _ _ _ | (simp only [Bx.set_ne _ (Ne.symm ne_p8_p9), Bx.set_ne _ ne_p8_p9, Bx.set_same]; rfl)); dsimp only [Value.cells] at kp8; obtain ⟨gp8, kp8⟩ := kp8
  have hm8 := HM7.out.then0 hr.mod
  have hsame := HSM.out (some ⟨p9, o9, none⟩) (some ⟨p8, 0, none⟩) w8 (SlAt.oneAt (f := hd) kp9 (⟨k2, a7⟩ : Hold) hz9 hsz9) (SlAt.one (f := hd) kp8 (⟨k2, a7⟩ : Hold) rfl (hd_size _))
  (refine eff_callP (by simp only [List.getElem?_toArray, List.getElem?_cons_succ, List.getElem?_cons_zero]; rfl) ?hw14 ?hy14 hsame (fun wn hP => ?hn14); (case hw14 => rfl); (case hy14 => (go_simp; (try (first | with_reducible rfl | (constructor <;> with_reducible rfl))))); (try simp only [Act.put, List.setIfInBounds_toArray, List.set_cons_zero, List.set_cons_succ]))
  (refine TE.val0 (v := ?v15) (by simp only [List.getElem?_toArray, List.getElem?_cons_succ, List.getElem?_cons_zero]; rfl) ?hw15 (fun w1 => ?hy15) ?hn15; (case hw15 => rfl); (case hy15 => (go_simp; (try with_reducible rfl))); (try simp only [Act.put, List.setIfInBounds_toArray, List.set_cons_zero, List.set_cons_succ]))
  (refine TE.val0 (v := ?v16) (by simp only [List.getElem?_toArray, List.getElem?_cons_succ, List.getElem?_cons_zero]; rfl) ?hw16 (fun w1 => ?hy16) ?hn16; (case hw16 => rfl); (case hy16 => (go_simp; (try with_reducible rfl))); (try simp only [Act.put, List.setIfInBounds_toArray, List.set_cons_zero, List.set_cons_succ]))
  (refine TE.val0 (v := ?v17) (by simp only [List.getElem?_toArray, List.getElem?_cons_succ, List.getElem?_cons_zero]; rfl) ?hw17 (fun w1 => ?hy17) ?hn17; (case hw17 => rfl); (case hy17 => (go_simp; (try with_reducible rfl))); (try simp only [Act.put, List.setIfInBounds_toArray, List.set_cons_zero, List.set_cons_succ]))
  (refine TE.val0 (v := ?v18) (by simp only [List.getElem?_toArray, List.getElem?_cons_succ, List.getElem?_cons_zero]; rfl) ?hw18 (fun w1 => ?hy18) ?hn18; (case hw18 => rfl); (case hy18 => (go_simp; (try with_reducible rfl))); (try simp only [Act.put, List.setIfInBounds_toArray, List.set_cons_zero, List.set_cons_succ]))
  (refine TE.val0 (v := ?v19) (by simp only [List.getElem?_toArray, List.getElem?_cons_succ, List.getElem?_cons_zero]; rfl) ?hw19 (fun w1 => ?hy19) ?hn19; (case hw19 => rfl); (case hy19 => (go_simp; (try with_reducible rfl))); (try simp only [Act.put, List.setIfInBounds_toArray, List.set_cons_zero, List.set_cons_succ]))
  (refine TE.val0 (v := ?v20) (by simp only [List.getElem?_toArray, List.getElem?_cons_succ, List.getElem?_cons_zero]; rfl) ?hw20 (fun w1 => ?hy20) ?hn20; (case hw20 => rfl); (case hy20 => (go_simp; (try with_reducible rfl))); (try simp only [Act.put, List.setIfInBounds_toArray, List.set_cons_zero, List.set_cons_succ]))
  (refine TE.val0 (v := ?v21) (by simp only [List.getElem?_toArray, List.getElem?_cons_succ, List.getElem?_cons_zero]; rfl) ?hw21 (fun w1 => ?hy21) ?hn21; (case hw21 => rfl); (case hy21 => (go_simp; (try with_reducible rfl))); (try simp only [Act.put, List.setIfInBounds_toArray, List.set_cons_zero, List.set_cons_succ]))
  (refine TE.val0 (v := ?v22) (by simp only [List.getElem?_toArray, List.getElem?_cons_succ, List.getElem?_cons_zero]; rfl) ?hw22 (fun w1 => ?hy22) ?hn22; (case hw22 => rfl); (case hy22 => (go_simp; (try with_reducible rfl))); (try simp only [Act.put, List.setIfInBounds_toArray, List.set_cons_zero, List.set_cons_succ]))
  (refine TE.val0 (v := ?v23) (by simp only [List.getElem?_toArray, List.getElem?_cons_succ, List.getElem?_cons_zero]; rfl) ?hw23 (fun w1 => ?hy23) ?hn23; (case hw23 => rfl); (case hy23 => (go_simp; (try with_reducible rfl))); (try simp only [Act.put, List.setIfInBounds_toArray, List.set_cons_zero, List.set_cons_succ]))
  refine TE.nil ?_
  have mF := hm8.then0 hP
  go_wp2_with fail
  go_ret
  exact ⟨rfl, mF⟩
end Go.Proofs.Ytknmiojegnbakaa
