/- The lemmas of the proof, part M6: how the program and its data lie in memory, and what its functions do. -/
import Derived.Test.YtiaehkkkcaeaiaaGreatDoorM5
import Derived.WalkMore
import Derived.OwnWalk
import Derived.Scope
import Derived.Lib.Bytes
import Derived.Lib.MinMax
import Derived.RangeFuncNested
import Derived.RangeFuncBox
import Derived.RangeFuncLeaves
import Derived.RangeFuncCalls
import Derived.Shelf.Abstract
import Derived.WalkKit
import Derived.OwnWalkIn
import Derived.TacticsInMore
import Derived.LoopNIn
import Derived.LoopIn
import Derived.Maps.AppendAt
import Derived.LaidEql
import Derived.Stop.Asserts
import Derived.RowKitTokens
import Derived.Lib.IfaceEq
set_option linter.unusedSimpArgs false
set_option linter.unusedVariables false
set_option linter.unusedSectionVars false
namespace Go.Proofs.YtiaehkkkcaeaiaaGreatDoor
open Go.RowKit
open Go.ChangeMaps (setBlock)
attribute [local go_sem ↓] wlKey ldKey stKey wlRdy ldRdy stRdy wlTx ldTx eqKey1
attribute [local go_sem] zKey_size zRdy_size zOut_size zTx_size cell_blk frozen_blk kc_ext one_int one_bool one_ptr one_slice one_map kc_one kc_one0 kc_size sgc_size sgc_ext sgc_one0 sgc_one' rdr_size rdr_all rdr_one rdr_tx rdr0 rdr1 rdr41 rdr0' rdr1' rdr41' ocr_size ocr_all ocr2 ocr3 ocr4 ocr5 ocr2' ocr3' ocr4' ocr5' txr_size txr_all txr_one txr0 txr38 txr39 txr0' txr38' txr39' Value.cells
attribute [local go_sem] Oper.semAt_some
attribute [local go_sem ↓] wlIn ldIn stIn
theorem inr_size (y : InR) : (inr y).size = 3 := rfl
theorem inr_all (y : InR) : (inr y).extract 0 3 = inr y := rfl
theorem inr_one (y : InR) : (inr y).all (·.oneCell') 0 3 = true := by simp [inr, Value.oneCell']
theorem zIn_size : zIn.size = 3 := rfl
theorem inr2' (y : InR) (h : 2 < (inr y).size) : (inr y)[2] = .slice y.d.a y.d.l.length y.d.c := rfl
attribute [local go_sem] inr_size inr_all inr_one zIn_size inr2 inr2'
def dSum (l : List InR) : UInt64 := l.foldl (fun d x => d + UInt64.ofNat x.d.l.length) 0
theorem dSum_snoc {l : List InR} {i : Nat} {x : InR} (hx : l[i]? = some x) : dSum (l.take (i + 1)) = dSum (l.take i) + UInt64.ofNat x.d.l.length := by
 rw [List.take_add_one, hx]
 simp [dSum]
theorem parts_c (x : RdR) (n : Int) (u : UInt64) (w : World) : Calls Tryz.prog 77 #[.agg (txr x), .int .i64 n, u64v u] w fun e w' => ∃ p q r, e = .returned (.func (.func 117) #[] #[pV p, pV q, pV r]) ∧ w'.heap[p]? = some (.cells (txr x) 35 (0, 0)) ∧ w'.heap[q]? = some (.cells #[.int .i64 n] 3 (0, 0)) ∧ w'.heap[r]? = some (.cells #[u64v u] 37 (0, 0)) ∧ w.heap.size ≤ p ∧ w.heap.size ≤ q ∧ w.heap.size ≤ r ∧ Mod (fun _ => False) w w' := by
 have hmf := hmf
 go_enter Tryz.func77, Tryz.ntmps77
 go_upto_region 0 with fail
 refine wp_pass0 (C := fun _ _ _ => False) (κ := fun i => [3, 3, 3, 0].getD i 0) [0, 1, 2, 3] (by kernel_rfl) (by kernel_rfl) (fun _ _ d _ _ h => by cases d <;> first | exact h | exact absurd h (hP _ _ _)) ?_
 (refine TD.box (v := ?v1) (by simp only [zK]; rfl) rfl (by rfl) rfl rfl ?hx1 (fun p3 hp3 => ?n1); (case hx1 => simp only [zM]; try rfl); try simp only [zL])
 (refine TD.box (v := ?v2) (by simp only [zK]; rfl) rfl (by rfl) rfl rfl ?hx2 (fun p4 hp4 => ?n2); (case hx2 => simp only [zM]; try rfl); try simp only [zL])
 obtain ⟨ne_p4_p3, hp4⟩ := Bx.set_none hp4
 (refine TD.box (v := ?v3) (by simp only [zK]; rfl) rfl (by rfl) rfl rfl ?hx3 (fun p5 hp5 => ?n3); (case hx3 => simp only [zM]; try rfl); try simp only [zL])
 obtain ⟨ne_p5_p4, hp5⟩ := Bx.set_none hp5
 obtain ⟨ne_p5_p3, hp5⟩ := Bx.set_none hp5
 (refine TD.val0 (v := ?_) (by simp only [zK]; rfl) rfl (by rfl) (fun w1 => ?_) ?_; rotate_left; (next => go_simp; try with_reducible rfl); try simp only [zL])
 refine TD.nil (fun w1 hr => ?_)
 have kp3 := hr.box p3 _ (by first | exact Bx.set_same _ _ _ | (simp only [Bx.set_ne _ (Ne.symm ne_p4_p3), Bx.set_ne _ (Ne.symm ne_p5_p3), Bx.set_ne _ (Ne.symm ne_p5_p4), Bx.set_ne _ ne_p4_p3, Bx.set_ne _ ne_p5_p3, Bx.set_ne _ ne_p5_p4, Bx.set_same]; rfl)); dsimp only [Value.cells] at kp3; obtain ⟨gp3, kp3⟩ := kp3
 have kp4 := hr.box p4 _ (by first | exact Bx.set_same _ _ _ | (simp only [Bx.set_ne _ (Ne.symm ne_p4_p3), Bx.set_ne _ (Ne.symm ne_p5_p3), Bx.set_ne _ (Ne.symm ne_p5_p4), Bx.set_ne _ ne_p4_p3, Bx.set_ne _ ne_p5_p3, Bx.set_ne _ ne_p5_p4, Bx.set_same]; rfl)); dsimp only [Value.cells] at kp4; obtain ⟨gp4, kp4⟩ := kp4
 have kp5 := hr.box p5 _ (by first | exact Bx.set_same _ _ _ | (simp only [Bx.set_ne _ (Ne.symm ne_p4_p3), Bx.set_ne _ (Ne.symm ne_p5_p3), Bx.set_ne _ (Ne.symm ne_p5_p4), Bx.set_ne _ ne_p4_p3, Bx.set_ne _ ne_p5_p3, Bx.set_ne _ ne_p5_p4, Bx.set_same]; rfl)); dsimp only [Value.cells] at kp5; obtain ⟨gp5, kp5⟩ := kp5
 have m1 := hr.mod
 clear hr
 go_wp2_with fail
 go_ret
 exact ⟨_, _, _, rfl, kp3, kp4, kp5, gp3, gp4, gp5, m1⟩
def KeepR (R : Nat → Prop) (W W' : World) : Prop := ∀ i, R i → W'.heap[i]? = W.heap[i]?
theorem keepR_t {R : Nat → Prop} {A B C : World} (h : KeepR R A B) (k : KeepR R B C) : KeepR R A C := fun i hi => (k i hi).trans (h i hi)
theorem grown_mod {W W' : World} (hm : Mod (fun _ => False) W W') : W.grownBy W' none := ⟨hm.os, hm.tape, hm.output, hm.size, fun k hk _ => hm.block k hk (fun h => h)⟩
theorem wrapi {n : Nat} (h : n < 18446744073709551616) : IntKind.u64.wrap (n : Int) = ((UInt64.ofNat n).toNat : Int) := by
 rw [Mul64.wrapN n h, UInt64.toNat_ofNat', Nat.mod_eq_of_lt h]
theorem add_len (d : UInt64) {n : Nat} (h : n < 18446744073709551616) : Value.int .u64 (IntKind.u64.wrap ((d.toNat : Int) + (n : Int) % 18446744073709551616)) = u64v (d + UInt64.ofNat n) := by
 unfold u64v
 rw [UInt64.toNat_add, UInt64.toNat_ofNat', Nat.mod_eq_of_lt h, IntKind.wrap_u64]
 congr 1
 omega
theorem times720_c (a : UInt64) (w : World) : Calls Tryz.prog 80 #[u64v a, .int .u64 720, .int .u64 1, .bool false] w fun e w' => e = .returned (u64v (tim a 720)) ∧ Mod (fun _ => False) w w' := times1_c a 720 w
theorem times300_c (a : UInt64) (w : World) : Calls Tryz.prog 80 #[u64v a, .int .u64 300, .int .u64 1, .bool false] w fun e w' => e = .returned (u64v (tim a 300)) ∧ Mod (fun _ => False) w w' := times1_c a 300 w
set_option maxRecDepth 100000 in
set_option maxHeartbeats 4000000 in
theorem parts1_in (n l p q r : Nat) (x : RdR) (wn : Nat) (u : UInt64) (hwr : wn ≤ 1000000) (J Jx : List UInt64 → World → Prop) (W : World) (hJ : AbidesFrom W.heap.size J)
  (hY : ∀ pre z W1, J pre W1 → pre.length < 4 → YieldAt Fence.wide n Tryz.prog l #[u64v z] W1 fun e W' =>
   (e = .returned (.bool true) ∧ J (pre ++ [z]) W' ∧ KeepR (fun i => i = p ∨ i = q ∨ i = r) W1 W') ∨ (e = .returned (.bool false) ∧ Jx (pre ++ [z]) W'))
  (kp : W.heap[p]? = some (.cells (txr x) 35 (0, 0))) (kq : W.heap[q]? = some (.cells #[.int .i64 (wn : Int)] 3 (0, 0))) (kr : W.heap[r]? = some (.cells #[u64v u] 37 (0, 0)))
  (hins : SlAt inr 3 W x.ins.a x.ins.l) (b1 : x.ins.l.length ≤ 140737488355328) (b2 : x.sg.l.length ≤ 140737488355328) (b3 : ∀ y ∈ x.ins.l, y.d.l.length ≤ 140737488355328) (h0 : J [] W) :
  CallsIn Fence.wide (n + 1) Tryz.prog 117 #[.func (.yield l) #[] #[], pV p, pV q, pV r] W fun e W' => (∃ v, e = .returned v) ∧ (J (coL (UInt64.ofNat x.sg.l.length) (UInt64.ofNat wn) (dSum x.ins.l) u) W' ∨ ∃ pre, Jx pre W') := by
 refine callsIn_of_wp Tryz.func117 rfl trivial ?_ rfl
 simp only [Tryz.ntmps117, List.size_toArray, List.length_cons, List.length_nil, Nat.reduceAdd, Nat.reduceSub, Array.replicate_succ, Array.replicate_zero, List.push_toArray, List.append_toArray, List.nil_append, List.cons_append]
 have HI := Lib.hid hins
 have HJ := Lib.hid hJ
 have HY := Lib.hid hY
 have HB := Lib.hid b3
 have H0 := Lib.hid h0
 clear hins hJ hY b3 h0
 refine wpIn_wide.2 ?_
 go_wp2_with fail
 go_loopw [5, 12] (fun s5 s12 ws => ∃ i : Nat, i ≤ x.ins.l.length ∧ s12 = .int .i64 (i : Int) ∧ s5 = u64v (dSum (x.ins.l.take i)) ∧ Hid (J [] ws) ∧ Mod (fun _ => False) W ws) (fun _ s12 _ => x.ins.l.length - (intOf s12).toNat)
 case atStart => exact ⟨0, Nat.zero_le _, rfl, rfl, H0, Mod.refl _ _⟩
 case round =>
  obtain ⟨i, hi, rfl, rfl, HJi, hm⟩ := hrel
  replace kp := hm.at0 kp
  replace kq := hm.at0 kq
  replace kr := hm.at0 kr
  by_cases hlt : i < x.ins.l.length
  ·have hd := decide_eq_true hlt
   obtain ⟨y, hy⟩ : ∃ y, x.ins.l[i]? = some y := ⟨_, List.getElem?_eq_getElem hlt⟩
   obtain ⟨g, o, C, U, fr, ha, kg, he, hle⟩ := (HI.out.mod0 hm).block hy
   have hs := dSum_snoc hy
   have hyb := HB.out y (List.mem_of_getElem? hy)
   have HS := Lib.hid hs
   clear hy hs
   have hw : IntKind.u64.wrap (y.d.l.length : Int) = ((UInt64.ofNat y.d.l.length).toNat : Int) := wrapi (by omega)
   have hle3 : o + i * 3 + 3 ≤ C.size := hle
   go_upto_region 3 with fail
   have Lkp := lt_size kp
   have Lkg := lt_size kg
   refine wp_pass0 (C := fun _ _ _ => False) (κ := fun i => [0, 1, 3, 4].getD i 0) [0, 1, 2, 3] (by kernel_rfl) (by kernel_rfl) (fun _ _ d _ _ h => by cases d <;> first | exact h | exact absurd h (hP _ _ _)) ?_
   (refine TD.val0 (v := ?_) (by simp only [zK]; rfl) rfl (by rfl) (fun w1 => ?_) ?_; rotate_left; (next => go_simp; try with_reducible rfl); try simp only [zL])
   (refine TD.load (v := ?_) (p := ?_) (Mod.refl _ _) (by simp only [zK]; rfl) rfl (by rfl) rfl ?_ (fun wq hSq => ?_) ?_; rotate_left 2; (next => simp only [zM]; try rfl); (next => have kpq := hSq.at kp (fun h => h); have kgq := hSq.at kg (fun h => h); go_simp; try with_reducible rfl); try simp only [zL])
   (refine TD.allocB (by simp only [zK]; rfl) rfl (by rfl) rfl rfl alIn (fun p7 hp7 => ?n7); try simp only [zL])
   (refine TD.storeB (d := ?d8) (T := ?T8) (y := ?y8) (p := ?p8) (b := ?b8) (v := ?v8) (by simp only [zK]; rfl) rfl (by rfl) ?hd8 ?hop8 ?hev8 ?hx8 ?hb8 ?htag8 (fun w1 hb1 => ?hy8) ?hn8; (case hd8 => rfl); (case hop8 => rfl); (case hev8 => (simp only [zM]; (try rfl))); (case hx8 => simp only [zM]; try rfl); (case hb8 => first | exact Bx.set_same _ _ _ | (simp only [Bx.set_same]; rfl)); (case hy8 => (go_simp; (try first | with_reducible rfl | (rw [setCell_blk hb1]; rfl)))); try simp only [zL])
   refine TD.nil (fun w3 hr => ?_)
   replace kp := hr.mod.at kp (fun h => h)
   replace kg := hr.mod.at kg (fun h => h)
   have kp7 := hr.box p7 _ (by first | exact Bx.set_same _ _ _ | (simp only [Bx.set_same]; rfl)); dsimp only [Value.cells] at kp7; obtain ⟨gp7, kp7⟩ := kp7
   have hm3 := hm.then0 hr.mod
   have HJ3 := Lib.hid (HJ.out [] _ _ none HJi.out (grown_mod hr.mod) (fun r e => by cases e))
   clear hr hle hle3 he
   go_wp2_with fail
   go_roundw
   case rel => exact ⟨i + 1, by omega, by go_num, by rw [HS.out]; exact add_len _ (by omega), HJ3, hm3⟩
   case measure => simp [intOf]; omega
  ·have hd := decide_eq_false hlt
   obtain rfl : i = x.ins.l.length := by omega
   rw [List.take_length]
   have HCO : Hid (∃ su wu d, UInt64.ofNat x.sg.l.length = su ∧ UInt64.ofNat wn = wu ∧ dSum x.ins.l = d ∧ coL (UInt64.ofNat x.sg.l.length) (UInt64.ofNat wn) (dSum x.ins.l) u = coL su wu d u) := Lib.hid ⟨_, _, _, rfl, rfl, rfl, rfl⟩
   obtain ⟨su, wu, d, hsu, hwu, hdd, hco⟩ := HCO.out
   have HC := Lib.hid hco
   rw [hdd]
   clear hco HCO hdd
   have hws : IntKind.u64.wrap (x.sg.l.length : Int) = ((UInt64.ofNat x.sg.l.length).toNat : Int) := wrapi (by omega)
   have hww : IntKind.u64.wrap (wn : Int) = ((UInt64.ofNat wn).toNat : Int) := wrapi (by omega)
   rw [hsu] at hws
   rw [hwu] at hww
   clear hsu hwu
   go_upto_region 6 with fail
   refine (wpIn_wide (n := n + 1)).1 ?_
   have hd4 : ((d / 4).toNat : Int) = IntKind.u64.wrap ((d.toNat : Int) / 4) := by
    have := d.toNat_lt
    rw [UInt64.toNat_div, IntKind.wrap_u64, show (4 : UInt64).toNat = 4 from rfl]
    omega
   have HD4 := Lib.hid hd4
   clear hd4
   gi_wp2
   refine ⟨trivial, callsIn_wide.2 ?_⟩
   refine (times720_c su _).mono ?_
   rintro e w2 ⟨rfl, m2⟩
   replace kp := m2.at0 kp
   replace kq := m2.at0 kq
   replace kr := m2.at0 kr
   have HJ2 := HJ.out [] _ _ none HJi.out (grown_mod m2) (fun r e => by cases e)
   clear m2
   obtain ⟨fn1, tmps1, assign1, body1, hy1, hR1⟩ := HY.out [] (tim su 720) w2 HJ2 (by simp)
   gi_wp2
   refine hR1.mono ?_
   rintro e w3 (⟨rfl, hJ3, hk3⟩ | ⟨rfl, hx3⟩)
   ·replace kp := (hk3 p (.inl rfl)).trans kp
    replace kq := (hk3 q (.inr (.inl rfl))).trans kq
    replace kr := (hk3 r (.inr (.inr rfl))).trans kr
    clear hk3 hy1 hR1
    gi_wp2
    go_upto_region 7 with fail
    refine (wpIn_wide (n := n + 1)).1 ?_
    have hmx : max 0 (wn : Int) = (wn : Int) := by omega
    gi_wp2
    refine ⟨trivial, callsIn_wide.2 ?_⟩
    refine (times300_c wu _).mono ?_
    rintro e w4 ⟨rfl, m4⟩
    replace kr := m4.at0 kr
    have HJ4 := HJ.out _ _ _ none hJ3 (grown_mod m4) (fun r e => by cases e)
    clear m4
    obtain ⟨fn2, tmps2, assign2, body2, hy2, hR2⟩ := HY.out [tim su 720] (tim wu 300) w4 HJ4 (by simp)
    gi_wp2
    refine hR2.mono ?_
    rintro e w5 (⟨rfl, hJ5, hk5⟩ | ⟨rfl, hx5⟩)
    ·replace kr := (hk5 r (.inr (.inr rfl))).trans kr
     clear hk5 hy2 hR2
     gi_wp2
     go_upto_region 8 with fail
     refine (wpIn_wide (n := n + 1)).1 ?_
     obtain ⟨fn3, tmps3, assign3, body3, hy3, hR3⟩ := HY.out [tim su 720, tim wu 300] (d / 4) w5 hJ5 (by simp)
     simp only [u64v, HD4.out] at hy3
     gi_wp2
     refine hR3.mono ?_
     rintro e w6 (⟨rfl, hJ6, hk6⟩ | ⟨rfl, hx6⟩)
     ·replace kr := (hk6 r (.inr (.inr rfl))).trans kr
      clear hk6 hy3 hR3
      gi_wp2
      go_upto_region 9 with fail
      refine (wpIn_wide (n := n + 1)).1 ?_
      obtain ⟨fn4, tmps4, assign4, body4, hy4, hR4⟩ := HY.out [tim su 720, tim wu 300, d / 4] u w6 hJ6 (by simp)
      gi_wp2
      refine hR4.mono ?_
      rintro e w7 (⟨rfl, hJ7, hk7⟩ | ⟨rfl, hx7⟩)
      ·gi_wp2
       go_wp2_with fail
       go_end0
       exact ⟨⟨_, rfl⟩, .inl (by rw [HC.out]; exact hJ7)⟩
      ·gi_wp2
       go_wp2_with fail
       go_end0
       exact ⟨⟨_, rfl⟩, .inr ⟨_, hx7⟩⟩
     ·gi_wp2
      go_wp2_with fail
      go_end0
      exact ⟨⟨_, rfl⟩, .inr ⟨_, hx6⟩⟩
    ·gi_wp2
     go_wp2_with fail
     refine bodyPost_ret (results_none rfl _ _ _) rfl ?_
     exact ⟨⟨_, rfl⟩, .inr ⟨_, hx5⟩⟩
   ·gi_wp2
    go_wp2_with fail
    refine bodyPost_ret (results_none rfl _ _ _) rfl ?_
    exact ⟨⟨_, rfl⟩, .inr ⟨_, hx3⟩⟩
theorem parts_stops (n p q r : Nat) (x : RdR) (wn : Nat) (u : UInt64) (hwr : wn ≤ 1000000) (w : World) (kp : w.heap[p]? = some (.cells (txr x) 35 (0, 0))) (kq : w.heap[q]? = some (.cells #[.int .i64 (wn : Int)] 3 (0, 0))) (kr : w.heap[r]? = some (.cells #[u64v u] 37 (0, 0)))
  (hins : SlAt inr 3 w x.ins.a x.ins.l) (b1 : x.ins.l.length ≤ 140737488355328) (b2 : x.sg.l.length ≤ 140737488355328) (b3 : ∀ y ∈ x.ins.l, y.d.l.length ≤ 140737488355328) :
  SeqStopsK Fence.wide (n + 1) Tryz.prog 117 #[pV p, pV q, pV r] (fun v : UInt64 => #[u64v v]) (KeepR (fun i => i = p ∨ i = q ∨ i = r)) (fun xs => xs = coL (UInt64.ofNat x.sg.l.length) (UInt64.ofNat wn) (dSum x.ins.l) u) (fun _ => True) 4 w := fun l J Jx W hW hJ hJx hY h0 => by
 have hB : ∀ {i : Nat} {o : Obj}, w.heap[i]? = some o → W.heap[i]? = some o := fun {i o} h => (hW.block i (lt_size h)).trans h
 have hins' : SlAt inr 3 W x.ins.a x.ins.l := by
  rcases hins with h | ⟨b, o, C, U, fr, h1, h2, h3⟩
  ·exact .inl h
  ·exact .inr ⟨b, o, C, U, fr, h1, hB h2, h3⟩
 refine (parts1_in n l p q r x wn u hwr J Jx W hJ hY (hB kp) (hB kq) (hB kr) hins' b1 b2 b3 h0).mono ?_
 rintro e W' ⟨he, hj | ⟨pre, hj⟩⟩
 ·exact ⟨he, .inl ⟨_, rfl, hj⟩⟩
 ·exact ⟨he, .inr ⟨pre, trivial, hj⟩⟩
def noPanic (Q : Exit → Act → World → Prop) : Exit → Act → World → Prop := fun e a w => (∀ c, e ≠ .panic c) ∧ e ≠ .outgrown ∧ Q e a w
set_option maxRecDepth 100000 in
set_option maxHeartbeats 4000000 in
theorem of_c (x : RdR) (wn : Nat) (u : UInt64) (hwr : wn ≤ 1000000) (w : World) (hins : SlAt inr 3 w x.ins.a x.ins.l) (b1 : x.ins.l.length ≤ 140737488355328) (b2 : x.sg.l.length ≤ 140737488355328) (b3 : ∀ y ∈ x.ins.l, y.d.l.length ≤ 140737488355328) : Calls Tryz.prog 29 #[.agg (txr x), .int .i64 (wn : Int), u64v u] w fun e w' => e = .returned (u64v (coF (UInt64.ofNat x.sg.l.length) (UInt64.ofNat wn) (dSum x.ins.l) u)) ∧ Mod (fun _ => False) w w' := by
 have HI := Lib.hid (And.intro hins b3)
 clear hins b3
 refine (callsIn_wide (n := 4)).1 ?_
 refine callsIn_of_wp_marks Tryz.func29 rfl trivial ?_ rfl
 simp only [Tryz.ntmps29, List.size_toArray, List.length_cons, List.length_nil, Nat.reduceAdd, Nat.reduceSub, Array.replicate_succ, Array.replicate_zero, List.push_toArray, List.append_toArray, List.nil_append, List.cons_append]
 refine wpIn_wide.2 ?_
 refine wp_mono (Q := noPanic _) ?_ (fun e a w h => h.2.2)
 generalize hQ0 : bodyPostM Fence.wide 4 Tryz.prog _ _ = Q0
 have HQ0 := Lib.hid hQ0
 clear hQ0
 have hP : ∀ c a w, ¬ noPanic Q0 (.panic c) a w := fun c a w h => h.1 c rfl
 have hLo : ¬ LetsOut (noPanic Q0) := fun ⟨a, w, h⟩ => h.2.1 rfl
 generalize hQ1 : noPanic Q0 = Q1 at *
 have HQ1 := Lib.hid hQ1
 clear hQ1
 go_upto_region 0 with fail
 refine wp_pass0 (C := fun _ _ _ => False) (κ := fun i => [3, 0].getD i 0) [0, 1] (by kernel_rfl) (by kernel_rfl) (fun _ _ d _ _ h => by cases d <;> first | exact h | exact absurd h (hP _ _ _)) ?_
 (refine TD.box (v := ?v9) (by simp only [zK]; rfl) rfl (by rfl) rfl rfl ?hx9 (fun p3 hp3 => ?n9); (case hx9 => simp only [zM]; try rfl); try simp only [zL])
 (refine TD.val0 (v := ?_) (by simp only [zK]; rfl) rfl (by rfl) (fun w1 => ?_) ?_; rotate_left; (next => go_simp; try with_reducible rfl); try simp only [zL])
 refine TD.nil (fun w1 hr => ?_)
 have kp3 := hr.box p3 _ (by first | exact Bx.set_same _ _ _ | (simp only [Bx.set_same]; rfl)); dsimp only [Value.cells] at kp3; obtain ⟨gp3, kp3⟩ := kp3
 have m1 := hr.mod
 clear hr
 go_upto_region 1 with fail
 have Lkp3 := lt_size kp3
 refine wp_pass0 (C := fun _ _ _ => False) (κ := fun i => [3, 4].getD i 0) [0, 1] (by kernel_rfl) (by kernel_rfl) (fun _ _ d _ _ h => by cases d <;> first | exact h | exact absurd h (hP _ _ _)) ?_
 (refine TD.allocB (by simp only [zK]; rfl) rfl (by rfl) rfl rfl alU64 (fun p7 hp7 => ?n11); try simp only [zL])
 (refine TD.storeB (d := ?d12) (T := ?T12) (y := ?y12) (p := ?p12) (b := ?b12) (v := ?v12) (by simp only [zK]; rfl) rfl (by rfl) ?hd12 ?hop12 ?hev12 ?hx12 ?hb12 ?htag12 (fun w1 hb1 => ?hy12) ?hn12; (case hd12 => rfl); (case hop12 => rfl); (case hev12 => (simp only [zM]; (try rfl))); (case hx12 => simp only [zM]; try rfl); (case hb12 => first | exact Bx.set_same _ _ _ | (simp only [Bx.set_same]; rfl)); (case hy12 => (go_simp; (try first | with_reducible rfl | (rw [setCell_blk hb1]; rfl)))); try simp only [zL])
 refine TD.nil (fun w2 hr => ?_)
 replace kp3 := hr.mod.at kp3 (fun h => h)
 have kp7 := hr.box p7 _ (by first | exact Bx.set_same _ _ _ | (simp only [Bx.set_same]; rfl)); dsimp only [Value.cells] at kp7; obtain ⟨gp7, kp7⟩ := kp7
 have m2 := m1.then0 hr.mod
 have HLT := Lib.hid (And.intro (lt_size kp3) (And.intro (lt_size kp7) m1.size))
 clear hr
 go_upto_region 2 with fail
 go_wp2_with fail
 go_at_call 77
 refine (parts_c x _ u _).mono ?_
 rintro e w3 ⟨p, q, r, rfl, kp, kq, kr, hp, hq, hr, m3⟩
 replace kp7 := m3.at0 kp7
 go_wp2_with fail
 have m3w := m2.then0 m3
 have HM3 := Lib.hid m3w
 have HLQ := Lib.hid (And.intro (lt_size kp) (And.intro (lt_size kq) (lt_size kr)))
 have hins3 : SlAt inr 3 w3 x.ins.a x.ins.l := HI.out.1.mod0 m3w
 have h7 : p7 ≠ p ∧ p7 ≠ q ∧ p7 ≠ r := by
  have h := HLT.out
  exact ⟨by omega, by omega, by omega⟩
 have HK := Lib.hid (And.intro kp7 (And.intro kp (And.intro kq (And.intro kr hins3))))
 clear kp7 kp kq kr hins3 m3w m3 kp3
 have hbs : ∀ (a b : UInt64) w, (Instr.buildSlice 158 2 #[(0, u64v a), (1, u64v b)]).run Tryz.prog w = .ok (.slice (some ⟨w.heap.size, 0, none⟩) 2 2) (w.alloc (.cells #[u64v a, u64v b] 37)) := fun a b w => by kernel_rfl
 refine wpIn_wide.1 (wpIn_rangeFunc_ownG (n := 3) rfl (by omega) (gf := 117) (lb := #[pV p, pV q, pV r]) rfl trivial (enters_of Tryz.func117 (by kernel_rfl) rfl)
  (parts_stops 1 p q r x wn u hwr w3 HK.out.2.1 HK.out.2.2.1 HK.out.2.2.2.1 HK.out.2.2.2.2 b1 b2 HI.out.2) keepR_t (fun W l o o' hl hk _ _ i hi => World.putObj_heap_other (by have := HLQ.out; rcases hi with e | e | e <;> omega)) (Below.refl _ _) (fun _ => rfl)
  (fun pre W => W.heap[p7]? = some (.cells #[u64v (pre.foldl sat 0)] 37 (0, 0)) ∧ Mod (fun i => i = p7 ∨ w3.heap.size ≤ i) w3 W)
  (fun _ _ _ => False) ?own (fun _ _ _ _ _ hs _ _ => hs) ⟨HK.out.1, Mod.refl _ _⟩
  (fun z => { tmps := #[.agg (txr x), .int .i64 (wn : Int), u64v u, pV p3, undef, undef, .int .u64 0, pV p7, u64v z, .agg (txr x), .int .i64 (wn : Int), u64v u, .func (.func 117) #[] #[pV p, pV q, pV r], u64v z, undef, undef, undef, undef, undef], defers := [] }) ?assign ?body ?done ?stop)
 case own =>
  rintro pre W W' row ⟨h1, h2⟩ hg hr
  have hlt : p7 < w3.heap.size := lt_size HK.out.1
  refine ⟨(hg.block p7 (lt_size h1) (fun e => by have := (hr p7 e.symm).1; omega)).trans h1, h2.then (⟨hg.os, hg.tape, hg.output, hg.size, fun k hk hne => hg.block k hk (fun e => hne (.inr (hr k e.symm).1))⟩ : Mod (fun i => i = p7 ∨ w3.heap.size ≤ i) W W') (fun i hi e => e)⟩
 case assign =>
  intro l z W K hK
  gi_wp2
  exact hK
 case body =>
  rintro l pre z W ⟨h1, h2⟩ hlt
  have k7 := h1
  have H2 := Lib.hid h2
  have K7 : Hid (∃ cs, W.heap[p7]? = some (.cells cs 37 (0, 0))) := Lib.hid ⟨_, h1⟩
  clear h1 h2
  gi_wp2
  refine ⟨trivial, CallsIn.inRound l (callsIn_wide.2 ?_)⟩
  refine (wsum_c W.heap.size (pre.foldl sat 0) z _ (heap_alloc_new _ _)).mono ?_
  rintro e W2 ⟨rfl, m2⟩
  have mm := ((Mod.refl (fun _ => False) W).alloc (.cells #[u64v (pre.foldl sat 0), u64v z] 37)).trans m2
  replace k7 := mm.at0 k7
  clear m2
  gi_wp2
  rw [setCell_blk k7]
  have k8 := heap_setBlock W2 (.cells (#[u64v (pre.foldl sat 0)].setIfInBounds 0 (.int .u64 ((sat (pre.foldl sat 0) z).toNat : Int))) 37 (0, 0)) (lt_size k7)
  have m8 := (mm.mono (T := fun i => i = p7) (fun _ _ h => h.elim)).trans (mod_set W2 p7 (.cells (#[u64v (pre.foldl sat 0)].setIfInBounds 0 (.int .u64 ((sat (pre.foldl sat 0) z).toNat : Int))) 37 (0, 0)))
  have K0 : ∃ cs, W.heap[p7]? = some (.cells cs 37 (0, 0)) := K7.out
  obtain ⟨cs0, K0⟩ := K0
  refine ⟨(⟨m8.size, fun k o hk ho => m8.at_ne hk (fun e => by subst e; rw [K0] at hk; cases hk; cases ho)⟩ : KeepsOthers W _).from _, fun i hi => ?_, ?_, H2.out.then m8 (fun i _ e => .inl e)⟩
  ·refine m8.block i ?_ ?_
   ·have h1 := HLQ.out
    have h2 := H2.out.size
    rcases hi with e | e | e <;> omega
   ·rcases hi with e | e | e <;> omega
  ·rw [List.foldl_append]
   exact k8
 case done =>
  rintro D xs W hD rfl ⟨h1, h2⟩ hK
  have H2 := Lib.hid h2
  clear h2
  go_wp2_with fail
  rw [← HQ1.out]
  refine ⟨fun c h => (by cases h), fun h => (by cases h), ?_⟩
  rw [← HQ0.out]
  refine ⟨by simp, .inl ⟨_, _, rfl, run_takeDeferred hK, ?_⟩⟩
  refine ⟨_, results_tmp rfl _ _ _, rfl, ?_⟩
  have hw3 := HM3.out.size
  have hg7 := HLT.out.2.2
  have mm := HM3.out.then H2.out (fun i hi e => by rcases e with e | e <;> omega)
  exact ⟨mm.os, mm.tape, mm.output, by rw [World.putObj_size]; exact mm.size, fun k hk hne => (World.putObj_heap_other (by omega)).trans (mm.block k hk hne)⟩
 case stop =>
  rintro D c pre W hD _ h _
  exact h.elim
end Go.Proofs.YtiaehkkkcaeaiaaGreatDoor
namespace Go.Proofs.YtiaehkkkcaeaiaaGreatDoor
open Go.RowKit
open Go.ChangeMaps (setBlock)
attribute [local go_sem ↓] wlKey ldKey stKey ldSg stSg wlTc ldTc stTc eqKey1
attribute [local go_sem] cell_blk frozen_blk kc_ext one_int one_bool one_ptr one_slice one_map kc_one kc_one0 kc_size zKey_size sgc_size sgc_ext sgc_one0 sgc_one' txr_size txr_all txr_one txr_one' txr0 txr38 txr39 txr0' txr38' txr39' zTx_size Value.cells
attribute [local go_sem ↓] ldRole stRole
attribute [local go_sem] rc_size rc_key rc_w' rc_one zRole_size
theorem wrL_snoc {l : List Role} {i : Nat} {x : Role} (hx : l[i]? = some x) : wrL (l.take (i + 1)) = wrL (l.take i) ++ (if x.w then [x.k] else []) := by
 rw [List.take_add_one, hx]
 cases h : x.w <;> simp [wrL, h]
theorem wrL_len (l : List Role) : (wrL l).length ≤ l.length := by
 unfold wrL
 rw [List.length_map]
 exact List.length_filter_le _ _
theorem role_at {w : World} {a : Option Addr} {l : List Role} (h : SlAt rcr 34 w a l) {i : Nat} {x : Role} (hx : l[i]? = some x) : ∃ g o C U fr, a = some ⟨g, o, none⟩ ∧ w.heap[g]? = some (.cells C U fr) ∧ C.extract (o + i * 34) (o + i * 34 + 34) = rc x.k x.s x.w ∧ o + i * 34 + 34 ≤ C.size := h.block hx
theorem bsKey (k : Key) (w : World) : (Instr.buildSlice 27 1 #[(0, .agg (kc k))]).run Tryz.prog w = .ok (.slice (some ⟨w.heap.size, 0, none⟩) 1 1) (w.alloc (.cells (kc k) 82)) := by
 obtain ⟨i0, hi, hz0, hz1, hz2⟩ := info_parts (show (Tryz.prog.info? 82).map (fun i => (i.zero, i.size, i.bytes)) = some (some (.agg zKey), 32, 32) by kernel_rfl)
 refine run_buildSlice w _ _ 1 _ _ i0 _ Tryz.underlying27 hi hz0 (by rw [hz1]; omega) (by rw [hz1]; omega) ?_
 rw [hz1]
 show Instr.fill _ _ [(0, _)] = _
 rw [fill_cons (off := 0) (n := 32) rfl (by simp [Value.cells]) (by simp [Value.cells, zKey_size, size_madeCells])]
 show some (wr _ 0 (kc k).toList) = _
 rw [wr_whole (kc k) _ (by simp [Value.cells, zKey_size, size_madeCells])]
set_option maxRecDepth 20000 in
set_option maxHeartbeats 3200000 in
theorem written_c (a : Option Addr) (l : List Role) (c : Nat) (w : World) (hl : SlAt rcr 34 w a l) (hn : l.length ≤ 100000) : Calls Tryz.prog 30 #[.slice a l.length c] w fun e w' => ∃ v, e = .returned v ∧ NewS kc 32 82 w.heap.size w' v (wrL l) ∧ Mod (fun _ => False) w w' := by
 have HL := Lib.hid hl
 clear hl
 go_enter Tryz.func30, Tryz.ntmps30
 go_wp2_with fail
 go_loopw [2, 7] (fun s2 s7 ws => ∃ i : Nat, i ≤ l.length ∧ s7 = .int .i64 (i : Int) ∧ Hid (SlOwn kc 32 82 ws w.heap.size s2 (wrL (l.take i))) ∧ Mod (fun _ => False) w ws) (fun _ s7 _ => l.length - (intOf s7).toNat)
 case atStart => exact ⟨0, Nat.zero_le _, rfl, Lib.hid (SlOwn.nil _ _), Mod.refl _ _⟩
 case round =>
  obtain ⟨i, hi, rfl, HO, hm⟩ := hrel
  by_cases hlt : i < l.length
  ·have hd := decide_eq_true hlt
   obtain ⟨x, hx⟩ : ∃ x, l[i]? = some x := ⟨_, List.getElem?_eq_getElem hlt⟩
   obtain ⟨g, o, C, U, fr, rfl, kg, he, hle⟩ := role_at (HL.out.mod0 hm) hx
   have hlen := wrL_len (l.take i)
   have hlen2 := List.length_take_le i l
   have HN : Hid ((wrL (l.take i)).length ≤ 100000) := Lib.hid (by omega)
   have HX := Lib.hid (wrL_snoc hx)
   clear hx hlen hlen2
   obtain ⟨xk, xs, xw⟩ := x
   dsimp only at he HX
   go_upto_region 3 with fail
   have Lkg := lt_size kg
   refine wp_pass0 (C := fun _ _ _ => False) (κ := fun i => [0, 1, 3, 4].getD i 0) [0, 1, 2, 3] (by kernel_rfl) (by kernel_rfl) (fun _ _ d _ _ h => by cases d <;> first | exact h | exact absurd h (hP _ _ _)) ?_
   (refine TD.val0 (v := ?_) (by simp only [zK]; rfl) rfl (by rfl) (fun w1 => ?_) ?_; rotate_left; (next => go_simp; try with_reducible rfl); try simp only [zL])
   (refine TD.load (v := ?_) (p := ?_) (Mod.refl _ _) (by simp only [zK]; rfl) rfl (by rfl) rfl ?_ (fun wq hSq => ?_) ?_; rotate_left 2; (next => simp only [zM]; try rfl); (next => have kgq := hSq.at kg (fun h => h); go_simp; try with_reducible rfl); try simp only [zL])
   (refine TD.allocB (by simp only [zK]; rfl) rfl (by rfl) rfl rfl alRole (fun p4 hp4 => ?n3); try simp only [zL])
   (refine TD.storeB (d := ?d4) (T := ?T4) (y := ?y4) (p := ?p4) (b := ?b4) (v := ?v4) (by simp only [zK]; rfl) rfl (by rfl) ?hd4 ?hop4 ?hev4 ?hx4 ?hb4 ?htag4 (fun w1 hb1 => ?hy4) ?hn4; (case hd4 => rfl); (case hop4 => rfl); (case hev4 => (simp only [zM]; (try rfl))); (case hx4 => simp only [zM]; try rfl); (case hb4 => first | exact Bx.set_same _ _ _ | (simp only [Bx.set_same]; rfl)); (case hy4 => (go_simp; (try first | with_reducible rfl | (rw [setCell_blk hb1]; rfl)))); try simp only [zL])
   refine TD.nil (fun w3 hr => ?_)
   replace kg := hr.mod.at kg (fun h => h)
   have kp4 := hr.box p4 _ (by first | exact Bx.set_same _ _ _ | (simp only [Bx.set_same]; rfl)); dsimp only [Value.cells] at kp4; obtain ⟨gp4, kp4⟩ := kp4
   have hm3 := hm.then0 hr.mod
   have HO3 := Lib.hid (HO.out.mod0 hr.mod)
   clear hr he hle kg
   cases xw with
   | false =>
    have HX2 : Hid (wrL (l.take (i + 1)) = wrL (l.take i)) := Lib.hid (by rw [HX.out]; simp)
    go_wp2_with fail
    go_roundw
    case rel => exact ⟨i + 1, by omega, by go_num, Lib.hid (by rw [HX2.out]; exact HO3.out), hm3⟩
    case measure => simp [intOf]; omega
   | true =>
    have HX2 : Hid (wrL (l.take (i + 1)) = wrL (l.take i) ++ [xk]) := Lib.hid (by rw [HX.out]; simp)
    have hbs := bsKey xk
    obtain ⟨a2, c2, rfl, _⟩ := HO3.out.at keysT
    generalize hll : (wrL (l.take i)).length = ll at *
    have HLL := Lib.hid hll
    clear hll
    go_upto_region 5 with fail
    have Lkp4 := lt_size kp4
    refine wp_pass0 (C := fun _ _ _ => False) (κ := fun i => [0, 0, 1, 3, 5, 0].getD i 0) [0, 1, 2, 3, 4, 5] (by kernel_rfl) (by kernel_rfl) (fun _ _ d _ _ h => by cases d <;> first | exact h | exact absurd h (hP _ _ _)) ?_
    iterate 3 first | (refine TD.val0 (v := ?_) (by simp only [zK]; rfl) rfl (by rfl) (fun w1 => ?_) ?_; rotate_left; (next => go_simp; try with_reducible rfl); try simp only [zL]) | (refine TD.load (v := ?_) (p := ?_) (Mod.refl _ _) (by simp only [zK]; rfl) rfl (by rfl) rfl ?_ (fun wq hSq => ?_) ?_; rotate_left 2; (next => simp only [zM]; try rfl); (next => have kp4q := hSq.at kp4 (fun h => h); go_simp; try with_reducible rfl); try simp only [zL])
    (refine TD.bslice (by simp only [zK]; rfl) rfl (by rfl) rfl rfl ?hx8 hbs (fun p16 hp16 => ?n8); (case hx8 => (simp only [List.map_toArray, List.map_cons, List.map_nil, zM]; (try rfl))); try simp only [zL])
    refine TD.eff (by simp only [zK]; rfl) rfl (fun w4 hr => ?_)
    replace kp4 := hr.mod.at kp4 (fun h => h)
    have kp16 := hr.box p16 _ (by first | exact Bx.set_same _ _ _ | (simp only [Bx.set_same]; rfl)); dsimp only [Value.cells] at kp16; obtain ⟨gp16, kp16⟩ := kp16
    have m4 := hr.mod
    clear hr hbs
    obtain ⟨v5, w5, hap, hO5, m5, hn5⟩ := SlOwn.append keysT (q := [xk]) (c := 1) (HO3.out.mod0 m4) (SlAt.one kp16 xk rfl (kc_size _)) (by have := HN.out; have := HLL.out; simp only [List.length_singleton]; omega) (by decide) (Nat.le_trans hm3.size m4.size) 27
    have hlo := HO3.out.lt
    have hm5 : Mod (fun _ => False) w w5 := (hm3.then0 m4).then m5 (fun j hj e => by have := (hlo j e).1; omega)
    have HO5 := Lib.hid hO5
    clear hO5 m5 m4 hn5 hlo
    (refine eff_append (by simp only [zK]; rfl) (by rfl) rfl ?hx10 ?hz10 hap ?n10; (case hx10 => simp only [zM]; try rfl); (case hz10 => simp only [zM]; try rfl); try simp only [zL])
    (refine TE.val0 (v := ?v11) (by simp only [zK]; rfl) (by rfl) (fun w1 => ?y11) ?n11; (case y11 => go_simp; try with_reducible rfl); try simp only [zL])
    refine TE.nil ?_
    go_wp2_with fail
    go_roundw
    case rel => exact ⟨i + 1, by omega, by go_num, Lib.hid (by rw [HX2.out]; exact HO5.out), hm5⟩
    case measure => simp [intOf]; omega
  ·have hd := decide_eq_false hlt
   obtain rfl : i = l.length := by omega
   obtain ⟨a2, c2, v2, rfl, hcl, hN⟩ := HO.out.clip keysT
   rw [List.take_length] at hcl hN
   have HNN := Lib.hid hN
   have HCL := Lib.hid hcl
   clear hcl hN
   rw [List.take_length]
   go_wp2_with fail
   go_at_call 79
   refine (clipKr_c v2 _ _ HCL.out).mono ?_
   rintro e w5 ⟨rfl, rfl⟩
   go_wp2_with fail
   go_ret
   exact ⟨_, rfl, HNN.out, hm⟩
end Go.Proofs.YtiaehkkkcaeaiaaGreatDoor
namespace Go.Proofs.YtiaehkkkcaeaiaaGreatDoor
open Go.RowKit Go.Extern.Stop Go.Stop Go.Extern
open Go.ChangeMaps (setBlock)
attribute [local go_sem] cell_blk frozen_blk one_int one_bool one_ptr one_slice one_map Value.cells
theorem eiTypeOf (v : Value) (w : World) : (Extern.ReflectliteType.typeOf #[.iface 42 v]).run Tryz.prog w = .ok (.iface 187 (.agg #[.pointer (some ⟨4, 42, none⟩)])) w := by kernel_rfl
def cmpM : Array Value → Sem Value := Extern.ReflectliteType.method fun t => do Extern.Rtype.noPackHeld "Comparable" t; pure (.bool (← typeInfo t).comparable)
theorem eiComparable (w : World) : (cmpM #[.agg #[.pointer (some ⟨4, 42, none⟩)]]).run Tryz.prog w = .ok (.bool true) w := by kernel_rfl
theorem eiMethod (v : Value) (w : World) : (Go.method 371 187 v "Comparable").run Tryz.prog w = .ok (183, v) w := by kernel_rfl
theorem eiNoIs (v : Value) (xT : TypeId) (w : World) : (Instr.typeAssert (.iface 42 v) xT 189 true).run Tryz.prog w = .ok (.tuple #[.nilIface, .bool false]) w := run_typeAssert_lacksB Tryz.underlying189 (by kernel_rfl) (by kernel_rfl) v xT w
theorem eiNoUnwrap (v : Value) (xT : TypeId) (w : World) : (Instr.typeAssert (.iface 42 v) xT 192 true).run Tryz.prog w = .ok (.tuple #[.nilIface, .bool false]) w := run_typeAssert_lacksB Tryz.underlying192 (by kernel_rfl) (by kernel_rfl) v xT w
theorem eiNoUnwraps (v : Value) (xT : TypeId) (w : World) : (Instr.typeAssert (.iface 42 v) xT 194 true).run Tryz.prog w = .ok (.tuple #[.nilIface, .bool false]) w := run_typeAssert_lacksB Tryz.underlying194 (by kernel_rfl) (by kernel_rfl) v xT w
set_option maxRecDepth 20000 in
theorem eis_c (a b : Int) (w : World) : Calls Tryz.prog 85 #[.iface 42 (.int .i64 a), .iface 42 (.int .i64 b), .bool true] w fun e w' => e = .returned (.bool (decide (a = b))) ∧ w' = w := by
 have nE := eiNoIs
 have uE := eiNoUnwrap
 have vE := eiNoUnwraps
 have heq0 : ∀ w : World, (binOp .eql 141 (.iface 42 (.int .i64 a)) (.iface 42 (.int .i64 b))).run Tryz.prog w = .ok (.bool (a == b)) w := fun w => Go.Lib.run_eql_iface_int (P := Tryz.prog) (k := .i64) w a b Tryz.underlying141 (by kernel_rfl) Tryz.underlying42
 by_cases h : a = b
 ·have hab : (a == b) = true := by simp [h]
  have heq : ∀ w : World, (binOp .eql 141 (.iface 42 (.int .i64 a)) (.iface 42 (.int .i64 b))).run Tryz.prog w = .ok (.bool (a == b)) w := heq0
  simp only [hab] at heq
  clear heq0
  rw [decide_eq_true h]
  subst h
  clear hab
  go_enter Tryz.func85, Tryz.ntmps85
  go_wp2
  refine wp_loop_rounds 1 ?_
  rw [rounds_succ]
  go_wp2
  go_ret
  exact ⟨rfl, rfl⟩
 ·have hab : (a == b) = false := by simp [h]
  have heq : ∀ w : World, (binOp .eql 141 (.iface 42 (.int .i64 a)) (.iface 42 (.int .i64 b))).run Tryz.prog w = .ok (.bool (a == b)) w := heq0
  simp only [hab] at heq
  clear heq0
  rw [decide_eq_false h]
  clear h hab
  go_enter Tryz.func85, Tryz.ntmps85
  go_wp2
  refine wp_loop_rounds 1 ?_
  rw [rounds_succ]
  go_wp2
  go_ret
  exact ⟨rfl, rfl⟩
set_option maxRecDepth 20000 in
theorem eIs_c (a b : Int) (w : World) : Calls Tryz.prog 35 #[.iface 42 (.int .i64 a), .iface 42 (.int .i64 b)] w fun e w' => e = .returned (.bool (decide (a = b))) ∧ w' = w := by
 have h8 := @run_callFunc_extern Tryz.prog 84 _ Extern.ReflectliteType.typeOf Tryz.func84 (by kernel_rfl) (by kernel_rfl) (by kernel_rfl) (by kernel_rfl)
 have h32 := @run_callFunc_extern Tryz.prog 183 _ cmpM Tryz.func183 (by kernel_rfl) (by kernel_rfl) (by kernel_rfl) (by kernel_rfl)
 have tT := eiTypeOf
 have cT := eiComparable
 have mR := eiMethod
 have nE := eiNoIs
 have uE := eiNoUnwrap
 have vE := eiNoUnwraps
 go_enter Tryz.func35, Tryz.ntmps35
 go_wp2_with fail
 go_at_call 85
 refine (eis_c a b _).mono ?_
 rintro e w2 ⟨rfl, rfl⟩
 go_wp2_with fail
 go_ret
 exact ⟨rfl, rfl⟩
theorem wrong_c (a : Int) (w : World) : Calls Tryz.prog 36 #[.int .i64 a] w fun e w' => e = .returned (.bool (!decide (a = 0))) ∧ w' = w := by
 go_enter Tryz.func36, Tryz.ntmps36
 go_wp2_with fail
 go_at_call 35
 refine (eIs_c a 0 _).mono ?_
 rintro e w2 ⟨rfl, rfl⟩
 go_wp2_with fail
 go_ret
 exact ⟨by first | rfl | simp, rfl⟩
end Go.Proofs.YtiaehkkkcaeaiaaGreatDoor
namespace Go.Proofs.YtiaehkkkcaeaiaaGreatDoor
open Go.RowKit
open Go.ChangeMaps (setBlock)
attribute [local go_sem ↓] wlKey ldKey stKey ldSg stSg wlTc ldTc stTc eqKey1
attribute [local go_sem] cell_blk frozen_blk kc_ext one_int one_bool one_ptr one_slice one_map kc_one kc_one0 kc_size zKey_size sgc_size sgc_ext sgc_one0 sgc_one' txr_size txr_all txr_one txr_one' txr0 txr38 txr39 txr0' txr38' txr39' zTx_size Value.cells
attribute [local go_sem ↓] wlRdy ldRdy stRdy
attribute [local go_sem] zTc_size zTc_ext zTc_all zTc_all0 txr_ms rdr_size rdr_all rdr_one zRdy_size
theorem bRdy0 (w : World) : (Instr.build 41 #[]).run Tryz.prog w = .ok (.agg zRdy) w := by kernel_rfl
theorem zRdy_one : zRdy.all (·.oneCell') 0 48 = true := rdr_one rd0
attribute [local go_sem] zRdy_one
theorem ldRdyR {w : World} {p : Nat} {r : RdR} {U : TypeId} {fr : Nat × Nat} (h : w.heap[p]? = some (.cells (rdr r) U fr)) : (Instr.loadAt 41 (.pointer (some ⟨p, 0, none⟩))).run Tryz.prog w = .ok (.agg (rdr r)) w := by
 rw [ldRdy]
 simp [h, rdr_size, rdr_all]
theorem ldRdyZ {w : World} {p : Nat} {U : TypeId} {fr : Nat × Nat} (h : w.heap[p]? = some (.cells zRdy U fr)) : (Instr.loadAt 41 (.pointer (some ⟨p, 0, none⟩))).run Tryz.prog w = .ok (.agg zRdy) w := ldRdyR (r := rd0) h
def ryP (r : RdR) : RyP := ⟨r.b.l, txP r, r.ro.l, r.un, r.pr, r.bad.toInt, r.fee, r.cost, r.prio⟩
def RyO (b : Nat) (w : World) (r : RdR) : Prop := TxO b w r ∧ NewS uc 1 5 b w (.slice r.b.a r.b.l.length r.b.c) r.b.l ∧ NewS rcr 34 91 b w (.slice r.ro.a r.ro.l.length r.ro.c) r.ro.l ∧
 (∀ g ∈ blk r, ∀ h, (Value.slice r.ro.a r.ro.l.length r.ro.c).ownBlock = some h → g < h) ∧ (∀ g ∈ blk r, ∀ h, (Value.slice r.b.a r.b.l.length r.b.c).ownBlock = some h → g < h) ∧
 ∀ g h, (Value.slice r.ro.a r.ro.l.length r.ro.c).ownBlock = some g → (Value.slice r.b.a r.b.l.length r.b.c).ownBlock = some h → g < h
def ReaP (T : TbL) (w : World) (l : List UInt8) (e : Ending) (w' : World) : Prop := Mod (fun _ => False) w w' ∧ match readyP T l with
 | .ok y => ∃ r, e = .returned (.tuple #[.agg (rdr r), i64n 0]) ∧ RyO w.heap.size w' r ∧ ryP r = y ∧ TxB (txP r)
 | .error n => e = .returned (.tuple #[.agg zRdy, i64n n])
theorem fnd_ne (T : TbL) (k : Key) : ∃ e0 : Nat, (if (tbFind T k).isSome then (0 : Int) else 11) = (e0 : Int) ∧ ¬ ((e0 : Int) = 2) := by
 by_cases h : (tbFind T k).isSome = true
 ·exact ⟨0, by rw [if_pos h]; rfl, by decide⟩
 ·exact ⟨11, by rw [if_neg h]; rfl, by decide⟩
theorem wire_few {l : List UInt8} {x : TxP} (h : wireP l = .ok x) : totP x ≤ 64 ∧ chkP x = 0 := by
 unfold wireP at h
 split at h
 ·cases h
 ·split at h
  ·rename_i h0
   cases h
   refine ⟨?_, h0⟩
   unfold chkP at h0
   split at h0
   ·cases h0
   ·split at h0
    ·cases h0
    ·split at h0
     ·cases h0
     ·split at h0
      ·cases h0
      ·rename_i h1
       have : fewP x = true := by simpa using h1
       exact of_decide_eq_true this
  ·cases h
theorem res_ne {T : TbL} : ∀ {L : List LoP} {o : List Key × List Key} {n : Nat}, resP T L o = .error n → n ≠ 0
 | [], o, n, h => by cases h
 | x :: xs, o, n, h => by
  unfold resP at h
  split at h
  ·cases h; decide
  ·split at h
   ·exact res_ne h
   ·cases h; decide
theorem TxO.lo {b : Nat} {w : World} {x : RdR} (h : TxO b w x) (hB : TxB (txP x)) : ∀ y ∈ x.lks.l, LoF w y := by
 obtain ⟨h1, h2, h3, h4, h5, h6, h7⟩ := h
 obtain ⟨b1, b2, ⟨b3, b4⟩, b5, b6⟩ := hB
 simp only [txP, msgP, List.length_map] at b1 b2 b3 b4 b5 b6
 intro i hi
 obtain ⟨y, hy, _, e2, e3, e4, e5⟩ := h6.1.left i hi
 have hb := b6 y hy
 rw [← e2] at e4
 rw [← e3] at e5
 obtain ⟨a4, q4, s4, o4⟩ := e4.at
 obtain ⟨a5, q5, s5, o5⟩ := e5.at
 injection q4 with q41 q42 q43
 injection q5 with q51 q52 q53
 exact ⟨⟨by rw [q41]; exact s4, fun g o e => (o4 g o (by rw [← q41]; exact e)).2, by rw [e2]; exact hb.1⟩, by rw [q51]; exact s5, fun g o e => (o5 g o (by rw [← q51]; exact e)).2, by rw [e3]; exact hb.2⟩
theorem lo_tot (z : RdR) : loSum z.lks.l ≤ totP (txP z) := by
 have : (z.lks.l.map loP).map (fun l => l.w.length + l.r.length) = z.lks.l.map (fun x => x.w.l.length + x.r.l.length) := by
  rw [List.map_map]
  rfl
 show (z.lks.l.map (fun x => x.w.l.length + x.r.l.length)).sum ≤ (msgP z).ks.length + ((z.lks.l.map loP).map (fun l => l.w.length + l.r.length)).sum
 rw [this]
 exact Nat.le_add_left _ _
theorem rdrT (x : RdR) : (rdr x).toList = .slice x.b.a x.b.l.length x.b.c :: ((txr x).toList ++ (rpost x).drop 2) := by
 simp [rdr, txr, mx, rpre, rpost]
theorem zRdyT : zRdy.toList.drop 45 = [.int .u64 0, .int .u64 0, .int .u64 0] := by
 simp [zRdy, rdr, mx, rpre, rpost, rd0, key0, List.drop_append]
theorem bldRy (z : RdR) (a1 ra : Option Addr) (l : List UInt8) (ro : List Role) (un pr : UInt64) (bad : Int64) (w : World) :
  (Instr.build 41 #[(0, .slice a1 l.length l.length), (1, .agg (txr z)), (2, .slice ra ro.length ro.length), (3, .agg (bgR un pr bad.toInt))]).run Tryz.prog w = .ok (.agg (rdr { z with b := ⟨a1, l, l.length⟩, ro := ⟨ra, ro, ro.length⟩, un := un, pr := pr, bad := bad, fee := 0, cost := 0, prio := 0 })) w := by
 refine run_build_struct (z := .agg zRdy) (places := #[(0, 1), (1, 40), (41, 1), (42, 3), (45, 1), (46, 1), (47, 1)]) Tryz.underlying41 (fun w => by kernel_rfl) (fun w => by kernel_rfl) ?_ w
 show Instr.fill _ zRdy [(0, _), (1, _), (2, _), (3, _)] = _
 rw [fill_cons (off := 0) (n := 1) rfl rfl (by rw [zRdy_size]; omega), fill_cons (off := 1) (n := 40) rfl (by simp [Value.cells, txr_size]) (by rw [wr_size, zRdy_size]; omega), fill_cons (off := 41) (n := 1) rfl rfl (by rw [wr_size, wr_size, zRdy_size]; omega), fill_cons (off := 42) (n := 3) rfl rfl (by rw [wr_size, wr_size, wr_size, zRdy_size]; omega)]
 refine congrArg some ?_
 apply Array.toList_inj.1
 obtain ⟨tl, htl⟩ : ∃ tl, (txr z).toList = tl := ⟨_, rfl⟩
 have hk : tl.length = 40 := by rw [← htl]; simp [txr_size]
 obtain ⟨zl, hzl⟩ : ∃ zl, zRdy.toList = zl := ⟨_, rfl⟩
 have hzk : zl.length = 48 := by rw [← hzl]; simp [zRdy_size]
 have hz45 := zRdyT
 rw [hzl] at hz45
 rw [rdrT, show txr { z with b := ⟨a1, l, l.length⟩, ro := ⟨ra, ro, ro.length⟩, un := un, pr := pr, bad := bad, fee := 0, cost := 0, prio := 0 } = txr z from rfl, htl]
 simp only [Value.cells]
 rw [htl]
 rw [wr_list _ _ _ (by simp only [wr_size, zRdy_size, bgR]; simp), wr_list _ _ _ (by simp only [wr_size, zRdy_size]; simp), wr_list _ _ _ (by simp only [wr_size, zRdy_size]; rw [hk]; decide), wr_list _ _ _ (by simp only [zRdy_size]; simp), hzl]
 simp [List.take_append, List.drop_append, hk, hzk, bgR, rpost, hz45, List.take_of_length_le, List.drop_of_length_le]
theorem rdr_bg (x : RdR) : (rdr x).extract 42 45 = bgR x.un x.pr x.bad.toInt := by
 have := part_of (pre := rpre x ++ (x.rc.l.map bc ++ (rpost x).take 3)) (mid := ((rpost x).drop 3).take 3) (post := (rpost x).drop 6) (a := 42) (b := 45) (by simp [rpre, rpost, x.rc.h]) (by simp [rpre, rpost, x.rc.h])
 simpa [rdr, bgR, mx, rpre, rpost] using this
theorem rdr42 (x : RdR) : (rdr x)[42]? = some (u64v x.un) := mx_post 3
theorem rdr42' (x : RdR) (h : 42 < (rdr x).size) : (rdr x)[42] = u64v x.un := at_get (rdr42 x) h
theorem rdr46 (x : RdR) : (rdr x)[46]? = some (u64v x.cost) := mx_post 7
theorem rdr46' (x : RdR) (h : 46 < (rdr x).size) : (rdr x)[46] = u64v x.cost := at_get (rdr46 x) h
theorem set_fee (x : RdR) (z : UInt64) : (rdr x).setIfInBounds 45 (u64v z) = rdr { x with fee := z } := mx_setpost 6 _
theorem set_cost (x : RdR) (z : UInt64) : (rdr x).setIfInBounds 46 (u64v z) = rdr { x with cost := z } := mx_setpost 7 _
theorem set_prio (x : RdR) (z : UInt64) : (rdr x).setIfInBounds 47 (u64v z) = rdr { x with prio := z } := mx_setpost 8 _
theorem budR_bg (s : BuP) (h : s.badI = -1 ∨ ∃ j : Nat, s.badI = (j : Int) ∧ j ≤ 1000000) : ∃ b : Int64, b.toInt = s.badI ∧ budR s = bgR s.units s.price b.toInt := by
 refine ⟨Int64.ofInt s.badI, ?_, ?_⟩
 ·rw [Int64.toInt_ofInt_of_le (by rcases h with h | ⟨j, h, _⟩ <;> rw [h] <;> simp <;> omega) (by rcases h with h | ⟨j, h, _⟩ <;> rw [h] <;> simp <;> omega)]
 ·rw [Int64.toInt_ofInt_of_le (by rcases h with h | ⟨j, h, _⟩ <;> rw [h] <;> simp <;> omega) (by rcases h with h | ⟨j, h, _⟩ <;> rw [h] <;> simp <;> omega)]
  rfl
theorem budL_bad {m : MsP} : ∀ {L : List InP} {s : BuP} {j : Nat}, (∀ k, s.bad = some k → k ≤ j) → ∀ k, (budL m s j L).bad = some k → k ≤ j + L.length
 | [], s, j, h, k, hk => h k hk
 | x :: L, s, j, h, k, hk => by
  rw [budL] at hk
  have h1 : ∀ k, (budStep m s j x).bad = some k → k ≤ j + 1 := by
   intro k hk
   unfold budStep at hk
   split at hk
   ·have := h k hk; omega
   ·split at hk
    ·have := h k hk; omega
    ·split at hk
     ·cases hk; omega
     ·split at hk
      ·cases hk; omega
      ·have := h k hk; omega
     ·split at hk
      ·cases hk; omega
      ·have := h k hk; omega
  have := budL_bad h1 k hk
  rw [List.length_cons]
  omega
theorem budP_bg (m : MsP) (h : m.ins.length ≤ 900000) : ∃ b : Int64, b.toInt = (budP m).badI ∧ budR (budP m) = bgR (budP m).units (budP m).price b.toInt := by
 refine budR_bg _ ?_
 cases hb : (budP m).bad with
 | none => exact .inl (by unfold BuP.badI; rw [hb])
 | some j =>
  have := budL_bad (m := m) (L := m.ins) (s := ⟨0, none, none, none⟩) (j := 0) (fun k h => by cases h) j hb
  exact .inr ⟨j, by unfold BuP.badI; rw [hb], by omega⟩
theorem res_len {T : TbL} : ∀ {L : List LoP} {o y : List Key × List Key}, resP T L o = .ok y → y.1.length + y.2.length = o.1.length + o.2.length + (L.map (fun l => l.w.length + l.r.length)).sum
 | [], o, y, h => by cases h; simp
 | x :: xs, o, y, h => by
  unfold resP at h
  split at h
  ·cases h
  ·split at h
   ·rename_i a b ha hb
    have h1 := res_len h
    have h2 := pick_len ha
    have h3 := pick_len hb
    simp only [List.length_append] at h1
    rw [List.map_cons, List.sum_cons]
    omega
   ·cases h
def ryR (z : RdR) (a1 ra : Option Addr) (l : List UInt8) (n : Nat) (ro : List Role) (m : Nat) (un pr : UInt64) (bad : Int64) (fe co pi : UInt64) : RdR := { z with b := ⟨a1, l, n⟩, ro := ⟨ra, ro, m⟩, un := un, pr := pr, bad := bad, fee := fe, cost := co, prio := pi }
section
variable (z : RdR) (a1 ra : Option Addr) (l : List UInt8) (n : Nat) (ro : List Role) (m : Nat) (un pr : UInt64) (bad : Int64) (fe co pi : UInt64)
theorem ryR_fee (v : UInt64) : (rdr (ryR z a1 ra l n ro m un pr bad fe co pi)).setIfInBounds 45 (u64v v) = rdr (ryR z a1 ra l n ro m un pr bad v co pi) := set_fee _ v
theorem ryR_cost (v : UInt64) : (rdr (ryR z a1 ra l n ro m un pr bad fe co pi)).setIfInBounds 46 (u64v v) = rdr (ryR z a1 ra l n ro m un pr bad fe v pi) := set_cost _ v
theorem ryR_prio (v : UInt64) : (rdr (ryR z a1 ra l n ro m un pr bad fe co pi)).setIfInBounds 47 (u64v v) = rdr (ryR z a1 ra l n ro m un pr bad fe co v) := set_prio _ v
theorem ryR_bg : (rdr (ryR z a1 ra l n ro m un pr bad fe co pi)).extract 42 45 = bgR un pr bad.toInt := rdr_bg _
theorem ryR42 : (rdr (ryR z a1 ra l n ro m un pr bad fe co pi))[42]? = some (u64v un) := rdr42 _
theorem ryR42' (h : 42 < (rdr (ryR z a1 ra l n ro m un pr bad fe co pi)).size) : (rdr (ryR z a1 ra l n ro m un pr bad fe co pi))[42] = u64v un := rdr42' _ h
theorem ryR46 : (rdr (ryR z a1 ra l n ro m un pr bad fe co pi))[46]? = some (u64v co) := rdr46 _
theorem ryR46' (h : 46 < (rdr (ryR z a1 ra l n ro m un pr bad fe co pi)).size) : (rdr (ryR z a1 ra l n ro m un pr bad fe co pi))[46] = u64v co := rdr46' _ h
theorem bldRyR (hn : l.length = n) (hm : ro.length = m) (w : World) :
  (Instr.build 41 #[(0, .slice a1 n n), (1, .agg (txr z)), (2, .slice ra m m), (3, .agg (bgR un pr bad.toInt))]).run Tryz.prog w = .ok (.agg (rdr (ryR z a1 ra l n ro m un pr bad 0 0 0))) w := by
 subst hn hm
 exact bldRy z a1 ra l ro un pr bad w
end
end Go.Proofs.YtiaehkkkcaeaiaaGreatDoor
namespace Go.Proofs.YtiaehkkkcaeaiaaGreatDoor
open Go.RowKit
open Go.ChangeMaps (setBlock)
attribute [local go_sem ↓] wlKey ldKey stKey ldSg stSg wlTc ldTc stTc eqKey1
attribute [local go_sem] cell_blk frozen_blk kc_ext one_int one_bool one_ptr one_slice one_map kc_one kc_one0 kc_size zKey_size sgc_size sgc_ext sgc_one0 sgc_one' txr_size txr_all txr_one txr_one' txr0 txr38 txr39 txr0' txr38' txr39' zTx_size Value.cells
theorem bsU1 (x : UInt8) (w : World) : (Instr.buildSlice 22 1 #[(0, u8v x)]).run Tryz.prog w = .ok (.slice (some ⟨w.heap.size, 0, none⟩) 1 1) (w.alloc (.cells #[u8v x] 5)) := by kernel_rfl
theorem cloneNone_c (w : World) : Calls Tryz.prog 40 #[.slice none 0 0] w fun e w' => e = .returned (.slice none 0 0) ∧ w = w' := by
 have he := eqNilY
 go_enter Tryz.func40, Tryz.ntmps40
 go_wp2_with fail
 go_ret
 exact ⟨rfl, rfl⟩
theorem byte_more {w : World} {base p : Nat} {v : Value} {l : List UInt8} {x : UInt8} (h : SlOwn uc 1 5 w base v l) (hp : w.heap[p]? = some (.cells #[u8v x] 5 (0, 0))) (hl : l.length ≤ 900000) (hb : base ≤ w.heap.size) :
  ∃ v' w', (Builtin.append_ #[22, 22] 22 #[v, .slice (some ⟨p, 0, none⟩) 1 1]).run Tryz.prog w = .ok v' w' ∧ SlOwn uc 1 5 w' base v' (l ++ [x]) ∧ Mod (fun i => v.ownBlock = some i) w w' := by
 obtain ⟨v', w', h1, h2, h3, _⟩ := SlOwn.append bytesT (q := [x]) (c := 1) h (SlAt.one hp x rfl rfl) (by simp; omega) (by decide) hb 22
 exact ⟨v', w', h1, h2, h3⟩
theorem clip_new {l : List UInt8} {b : Nat} {v : Value} {w : World} (h : SlOwn uc 1 5 w b v l) : ∃ a c, v = .slice a l.length c ∧ (∀ w2, (Instr.sliceAt 22 (.slice a l.length c) none (some (.int .i64 (l.length : Int))) (some (.int .i64 (l.length : Int)))).run Tryz.prog w2 = .ok (.slice a l.length l.length) w2) ∧ NewS uc 1 5 b w (.slice a l.length l.length) l := by
 obtain ⟨a, c, e, h1, h2, h3, h4⟩ := clip_own bytesT h
 obtain ⟨a', c', v2, e', h1', h2'⟩ := h.clip bytesT
 have hv : v2 = .slice a l.length l.length := by
  have e1 := h1 w
  rw [h1' w] at e1
  injection e1 with e1 _
 subst hv
 subst e
 exact ⟨a, c, rfl, h1, h2'⟩
theorem or_128 (n : Nat) : bits .or .u8 (IntKind.u8.wrap (n : Int)) 128 = ((UInt8.ofNat (n % 128 + 128)).toNat : Int) := by
 have h1 : IntKind.u8.wrap (n : Int) = ((n % 256 : Nat) : Int) := by rw [IntKind.wrap_u8]; omega
 rw [h1, UInt8.toNat_ofNat']
 have h2 : ∀ k : Fin 256, bits .or .u8 ((k.val : Nat) : Int) 128 = ((k.val % 128 + 128 : Nat) : Int) := by decide +kernel
 have h3 := h2 ⟨n % 256, by omega⟩
 simp only at h3
 rw [h3]
 omega
set_option maxRecDepth 20000 in
set_option maxHeartbeats 3200000 in
theorem putShort_c (n : Nat) (h : n ≤ 65535) (w : World) : Calls Tryz.prog 64 #[.slice none 0 0, .int .i64 (n : Int)] w fun e w' => ∃ a, e = .returned (.tuple #[.slice a (shP n).length (shP n).length, .int .i64 0]) ∧ NewS uc 1 5 w.heap.size w' (.slice a (shP n).length (shP n).length) (shP n) ∧ Mod (fun _ => False) w w' := by
 have hd1 : decide ((n : Int) < 0) = false := decide_eq_false (by omega)
 have hd2 : decide ((n : Int) > 65535) = false := decide_eq_false (by omega)
 have hd3 : decide ((65535 : Int) < (n : Int)) = false := decide_eq_false (by omega)
 have hd4 : decide (65535 < n) = false := decide_eq_false (by omega)
 have HO : Hid (SlOwn uc 1 5 w w.heap.size (.slice none 0 0) ([] : List UInt8)) := Lib.hid (SlOwn.nil _ _)
 have HM : Hid (Mod (fun _ => False) w w) := Lib.hid (Mod.refl _ _)
 by_cases h3 : 16384 ≤ n
 ·have hd5 : decide ((16384 : Int) ≤ (n : Int)) = true := decide_eq_true (by omega)
  have hd6 : decide (16384 ≤ n) = true := decide_eq_true h3
  obtain ⟨x, hx⟩ : ∃ x, UInt8.ofNat (n % 128 + 128) = x := ⟨_, rfl⟩
  obtain ⟨y, hy⟩ : ∃ y, UInt8.ofNat (n / 128 % 128 + 128) = y := ⟨_, rfl⟩
  obtain ⟨z, hz⟩ : ∃ z, UInt8.ofNat (n / 16384) = z := ⟨_, rfl⟩
  have hs : shP n = [x, y, z] := by
   unfold shP
   rw [if_neg (by omega), if_neg (by omega), hx, hy, hz]
  obtain ⟨m, hm⟩ : ∃ m, n / 128 = m := ⟨_, rfl⟩
  obtain ⟨o, ho⟩ : ∃ o, m / 128 = o := ⟨_, rfl⟩
  have hsh1 : (n : Int) / 128 = (m : Int) := by omega
  have hsh2 : (m : Int) / 128 = (o : Int) := by omega
  have hx1 : bits .or .u8 (IntKind.u8.wrap (n : Int)) 128 = (x.toNat : Int) := by rw [← hx]; exact or_128 n
  have hx2 : bits .or .u8 (IntKind.u8.wrap (m : Int)) 128 = (y.toNat : Int) := by rw [← hy, hm]; exact or_128 m
  have hx3 : IntKind.u8.wrap (o : Int) = (z.toNat : Int) := by
   rw [← hz, UInt8.toNat_ofNat', IntKind.wrap_u8]
   omega
  have HS := Lib.hid hs
  clear h3 hs hx hy hz h hm ho
  go_enter Tryz.func64, Tryz.ntmps64
  go_wp2_with fail
  go_at_call 40
  refine (cloneNone_c _).mono ?_
  rintro e w1 ⟨rfl, rfl⟩
  go_upto_region 6 with fail
  refine wp_pass0 (C := fun _ _ _ => False) (κ := fun i => [0, 0, 0, 0, 3, 5, 0].getD i 0) [0, 1, 2, 3, 4, 5, 6] (by kernel_rfl) (by kernel_rfl) (fun _ _ d _ _ h => by cases d <;> first | exact h | exact absurd h (hP _ _ _)) ?_
  iterate 4 (refine TD.val0 (v := ?_) (by simp only [zK]; rfl) rfl (by rfl) (fun w1 => ?_) ?_; rotate_left; (next => go_simp; try with_reducible rfl); try simp only [zL])
  (refine TD.bslice (by simp only [zK]; rfl) rfl (by rfl) rfl rfl ?hx5 (bsU1 x) (fun p25 hp25 => ?n5); (case hx5 => (simp only [List.map_toArray, List.map_cons, List.map_nil, zM]; (try rfl))); try simp only [zL])
  refine TD.eff (by simp only [zK]; rfl) rfl (fun w2 hr => ?_)
  have kp25 := hr.box p25 _ (by first | exact Bx.set_same _ _ _ | (simp only [Bx.set_same]; rfl)); dsimp only [Value.cells] at kp25; obtain ⟨gp25, kp25⟩ := kp25
  have HMa := Lib.hid (HM.out.then0 hr.mod)
  obtain ⟨v3, w3, hap, hO3, m3⟩ := byte_more (x := x) (HO.out.mod0 hr.mod) kp25 (by simp) HMa.out.size
  have HM : Hid (Mod (fun _ => False) w w3) := Lib.hid (HMa.out.then m3 (fun i hi e => by have := HO.out.lt i e; omega))
  have HO := Lib.hid hO3
  clear hr hO3 m3 kp25 gp25
  (refine eff_append (by simp only [zK]; rfl) (by rfl) rfl ?hx7 ?hz7 hap ?n7; (case hx7 => simp only [zM]; try rfl); (case hz7 => simp only [zM]; try rfl); try simp only [zL])
  (refine TE.val0 (v := ?v8) (by simp only [zK]; rfl) (by rfl) (fun w1 => ?y8) ?n8; (case y8 => go_simp; try with_reducible rfl); try simp only [zL])
  refine TE.nil ?_
  clear hap
  go_upto_region 8 with fail
  refine wp_pass0 (C := fun _ _ _ => False) (κ := fun i => [0, 0, 0, 0, 3, 5, 0].getD i 0) [0, 1, 2, 3, 4, 5, 6] (by kernel_rfl) (by kernel_rfl) (fun _ _ d _ _ h => by cases d <;> first | exact h | exact absurd h (hP _ _ _)) ?_
  iterate 4 (refine TD.val0 (v := ?_) (by simp only [zK]; rfl) rfl (by rfl) (fun w1 => ?_) ?_; rotate_left; (next => go_simp; try with_reducible rfl); try simp only [zL])
  (refine TD.bslice (by simp only [zK]; rfl) rfl (by rfl) rfl rfl ?hx13 (bsU1 y) (fun p33 hp33 => ?n13); (case hx13 => (simp only [List.map_toArray, List.map_cons, List.map_nil, zM]; (try rfl))); try simp only [zL])
  refine TD.eff (by simp only [zK]; rfl) rfl (fun w2 hr => ?_)
  have kp33 := hr.box p33 _ (by first | exact Bx.set_same _ _ _ | (simp only [Bx.set_same]; rfl)); dsimp only [Value.cells] at kp33; obtain ⟨gp33, kp33⟩ := kp33
  have HMa := Lib.hid (HM.out.then0 hr.mod)
  obtain ⟨v3, w3, hap, hO3, m3⟩ := byte_more (x := y) (HO.out.mod0 hr.mod) kp33 (by simp) HMa.out.size
  have HM : Hid (Mod (fun _ => False) w w3) := Lib.hid (HMa.out.then m3 (fun i hi e => by have := HO.out.lt i e; omega))
  have HO := Lib.hid hO3
  clear hr hO3 m3 kp33 gp33
  (refine eff_append (by simp only [zK]; rfl) (by rfl) rfl ?hx15 ?hz15 hap ?n15; (case hx15 => simp only [zM]; try rfl); (case hz15 => simp only [zM]; try rfl); try simp only [zL])
  (refine TE.val0 (v := ?v16) (by simp only [zK]; rfl) (by rfl) (fun w1 => ?y16) ?n16; (case y16 => go_simp; try with_reducible rfl); try simp only [zL])
  refine TE.nil ?_
  clear hap
  go_upto_region 10 with fail
  refine wp_pass0 (C := fun _ _ _ => False) (κ := fun i => [0, 0, 0, 3, 5, 0].getD i 0) [0, 1, 2, 3, 4, 5] (by kernel_rfl) (by kernel_rfl) (fun _ _ d _ _ h => by cases d <;> first | exact h | exact absurd h (hP _ _ _)) ?_
  iterate 3 (refine TD.val0 (v := ?_) (by simp only [zK]; rfl) rfl (by rfl) (fun w1 => ?_) ?_; rotate_left; (next => go_simp; try with_reducible rfl); try simp only [zL])
  (refine TD.bslice (by simp only [zK]; rfl) rfl (by rfl) rfl rfl ?hx20 (bsU1 z) (fun p40 hp40 => ?n20); (case hx20 => (simp only [List.map_toArray, List.map_cons, List.map_nil, zM]; (try rfl))); try simp only [zL])
  refine TD.eff (by simp only [zK]; rfl) rfl (fun w2 hr => ?_)
  have kp40 := hr.box p40 _ (by first | exact Bx.set_same _ _ _ | (simp only [Bx.set_same]; rfl)); dsimp only [Value.cells] at kp40; obtain ⟨gp40, kp40⟩ := kp40
  have HMa := Lib.hid (HM.out.then0 hr.mod)
  obtain ⟨v3, w3, hap, hO3, m3⟩ := byte_more (x := z) (HO.out.mod0 hr.mod) kp40 (by simp) HMa.out.size
  have HM : Hid (Mod (fun _ => False) w w3) := Lib.hid (HMa.out.then m3 (fun i hi e => by have := HO.out.lt i e; omega))
  have HO := Lib.hid hO3
  clear hr hO3 m3 kp40 gp40
  (refine eff_append (by simp only [zK]; rfl) (by rfl) rfl ?hx22 ?hz22 hap ?n22; (case hx22 => simp only [zM]; try rfl); (case hz22 => simp only [zM]; try rfl); try simp only [zL])
  (refine TE.val0 (v := ?v23) (by simp only [zK]; rfl) (by rfl) (fun w1 => ?y23) ?n23; (case y23 => go_simp; try with_reducible rfl); try simp only [zL])
  refine TE.nil ?_
  clear hap
  have hOf := HO.out
  simp only [List.nil_append, List.cons_append] at hOf
  rw [← HS.out] at hOf
  obtain ⟨a, c, e1, hcl, hN⟩ := clip_new hOf
  obtain ⟨k, hk⟩ : ∃ k, (shP n).length = k := ⟨_, rfl⟩
  rw [hk] at hcl e1
  subst e1
  have HF := Lib.hid (And.intro hN hk)
  have HCL := Lib.hid hcl
  clear hOf hN hk hcl
  go_wp2_with fail
  go_at_call 39
  refine (clipY_c _ _ _ HCL.out).mono ?_
  rintro e w9 ⟨rfl, rfl⟩
  go_wp2_with fail
  go_ret2
  refine ⟨a, ?_, HF.out.1, HM.out⟩
  rw [HF.out.2]
  rfl
 ·have hd5 : decide ((16384 : Int) ≤ (n : Int)) = false := decide_eq_false (by omega)
  have hd6 : decide (16384 ≤ n) = false := decide_eq_false h3
  by_cases h2 : 128 ≤ n
  ·have hd7 : decide ((128 : Int) ≤ (n : Int)) = true := decide_eq_true (by omega)
   have hd8 : decide (128 ≤ n) = true := decide_eq_true h2
   obtain ⟨x, hx⟩ : ∃ x, UInt8.ofNat (n % 128 + 128) = x := ⟨_, rfl⟩
   obtain ⟨y, hy⟩ : ∃ y, UInt8.ofNat (n / 128) = y := ⟨_, rfl⟩
   have hs : shP n = [x, y] := by
    unfold shP
    rw [if_neg (by omega), if_pos (by omega), hx, hy]
   obtain ⟨m, hm⟩ : ∃ m, n / 128 = m := ⟨_, rfl⟩
   have hsh1 : (n : Int) / 128 = (m : Int) := by omega
   have hx1 : bits .or .u8 (IntKind.u8.wrap (n : Int)) 128 = (x.toNat : Int) := by rw [← hx]; exact or_128 n
   have hx2 : IntKind.u8.wrap (m : Int) = (y.toNat : Int) := by
    rw [← hy, UInt8.toNat_ofNat', IntKind.wrap_u8]
    omega
   have HS := Lib.hid hs
   clear h3 h2 hs hx hy h hm
   go_enter Tryz.func64, Tryz.ntmps64
   go_wp2_with fail
   go_at_call 40
   refine (cloneNone_c _).mono ?_
   rintro e w1 ⟨rfl, rfl⟩
   go_upto_region 8 with fail
   refine wp_pass0 (C := fun _ _ _ => False) (κ := fun i => [0, 0, 0, 0, 3, 5, 0].getD i 0) [0, 1, 2, 3, 4, 5, 6] (by kernel_rfl) (by kernel_rfl) (fun _ _ d _ _ h => by cases d <;> first | exact h | exact absurd h (hP _ _ _)) ?_
   iterate 4 (refine TD.val0 (v := ?_) (by simp only [zK]; rfl) rfl (by rfl) (fun w1 => ?_) ?_; rotate_left; (next => go_simp; try with_reducible rfl); try simp only [zL])
   (refine TD.bslice (by simp only [zK]; rfl) rfl (by rfl) rfl rfl ?hx28 (bsU1 x) (fun p33 hp33 => ?n28); (case hx28 => (simp only [List.map_toArray, List.map_cons, List.map_nil, zM]; (try rfl))); try simp only [zL])
   refine TD.eff (by simp only [zK]; rfl) rfl (fun w2 hr => ?_)
   have kp33 := hr.box p33 _ (by first | exact Bx.set_same _ _ _ | (simp only [Bx.set_same]; rfl)); dsimp only [Value.cells] at kp33; obtain ⟨gp33, kp33⟩ := kp33
   have HMa := Lib.hid (HM.out.then0 hr.mod)
   obtain ⟨v3, w3, hap, hO3, m3⟩ := byte_more (x := x) (HO.out.mod0 hr.mod) kp33 (by simp) HMa.out.size
   have HM : Hid (Mod (fun _ => False) w w3) := Lib.hid (HMa.out.then m3 (fun i hi e => by have := HO.out.lt i e; omega))
   have HO := Lib.hid hO3
   clear hr hO3 m3 kp33 gp33
   (refine eff_append (by simp only [zK]; rfl) (by rfl) rfl ?hx30 ?hz30 hap ?n30; (case hx30 => simp only [zM]; try rfl); (case hz30 => simp only [zM]; try rfl); try simp only [zL])
   (refine TE.val0 (v := ?v31) (by simp only [zK]; rfl) (by rfl) (fun w1 => ?y31) ?n31; (case y31 => go_simp; try with_reducible rfl); try simp only [zL])
   refine TE.nil ?_
   clear hap
   go_upto_region 10 with fail
   refine wp_pass0 (C := fun _ _ _ => False) (κ := fun i => [0, 0, 0, 3, 5, 0].getD i 0) [0, 1, 2, 3, 4, 5] (by kernel_rfl) (by kernel_rfl) (fun _ _ d _ _ h => by cases d <;> first | exact h | exact absurd h (hP _ _ _)) ?_
   iterate 3 (refine TD.val0 (v := ?_) (by simp only [zK]; rfl) rfl (by rfl) (fun w1 => ?_) ?_; rotate_left; (next => go_simp; try with_reducible rfl); try simp only [zL])
   (refine TD.bslice (by simp only [zK]; rfl) rfl (by rfl) rfl rfl ?hx35 (bsU1 y) (fun p40 hp40 => ?n35); (case hx35 => (simp only [List.map_toArray, List.map_cons, List.map_nil, zM]; (try rfl))); try simp only [zL])
   refine TD.eff (by simp only [zK]; rfl) rfl (fun w2 hr => ?_)
   have kp40 := hr.box p40 _ (by first | exact Bx.set_same _ _ _ | (simp only [Bx.set_same]; rfl)); dsimp only [Value.cells] at kp40; obtain ⟨gp40, kp40⟩ := kp40
   have HMa := Lib.hid (HM.out.then0 hr.mod)
   obtain ⟨v3, w3, hap, hO3, m3⟩ := byte_more (x := y) (HO.out.mod0 hr.mod) kp40 (by simp) HMa.out.size
   have HM : Hid (Mod (fun _ => False) w w3) := Lib.hid (HMa.out.then m3 (fun i hi e => by have := HO.out.lt i e; omega))
   have HO := Lib.hid hO3
   clear hr hO3 m3 kp40 gp40
   (refine eff_append (by simp only [zK]; rfl) (by rfl) rfl ?hx37 ?hz37 hap ?n37; (case hx37 => simp only [zM]; try rfl); (case hz37 => simp only [zM]; try rfl); try simp only [zL])
   (refine TE.val0 (v := ?v38) (by simp only [zK]; rfl) (by rfl) (fun w1 => ?y38) ?n38; (case y38 => go_simp; try with_reducible rfl); try simp only [zL])
   refine TE.nil ?_
   clear hap
   have hOf := HO.out
   simp only [List.nil_append, List.cons_append] at hOf
   rw [← HS.out] at hOf
   obtain ⟨a, c, e1, hcl, hN⟩ := clip_new hOf
   obtain ⟨k, hk⟩ : ∃ k, (shP n).length = k := ⟨_, rfl⟩
   rw [hk] at hcl e1
   subst e1
   have HF := Lib.hid (And.intro hN hk)
   have HCL := Lib.hid hcl
   clear hOf hN hk hcl
   go_wp2_with fail
   go_at_call 39
   refine (clipY_c _ _ _ HCL.out).mono ?_
   rintro e w9 ⟨rfl, rfl⟩
   go_wp2_with fail
   go_ret2
   refine ⟨a, ?_, HF.out.1, HM.out⟩
   rw [HF.out.2]
   rfl
  ·have hd7 : decide ((128 : Int) ≤ (n : Int)) = false := decide_eq_false (by omega)
   have hd8 : decide (128 ≤ n) = false := decide_eq_false h2
   have hs : shP n = [UInt8.ofNat n] := if_pos (by omega)
   obtain ⟨x, hx⟩ : ∃ x, UInt8.ofNat n = x := ⟨_, rfl⟩
   have hw : IntKind.u8.wrap (n : Int) = (x.toNat : Int) := by
    rw [← hx, UInt8.toNat_ofNat', IntKind.wrap_u8]
    omega
   have HS := Lib.hid (hs.trans (by rw [hx]))
   clear h3 h2 hs hx h
   go_enter Tryz.func64, Tryz.ntmps64
   go_wp2_with fail
   go_at_call 40
   refine (cloneNone_c _).mono ?_
   rintro e w1 ⟨rfl, rfl⟩
   go_upto_region 10 with fail
   refine wp_pass0 (C := fun _ _ _ => False) (κ := fun i => [0, 0, 0, 3, 5, 0].getD i 0) [0, 1, 2, 3, 4, 5] (by kernel_rfl) (by kernel_rfl) (fun _ _ d _ _ h => by cases d <;> first | exact h | exact absurd h (hP _ _ _)) ?_
   iterate 3 (refine TD.val0 (v := ?_) (by simp only [zK]; rfl) rfl (by rfl) (fun w1 => ?_) ?_; rotate_left; (next => go_simp; try with_reducible rfl); try simp only [zL])
   (refine TD.bslice (by simp only [zK]; rfl) rfl (by rfl) rfl rfl ?hx42 (bsU1 x) (fun p40 hp40 => ?n42); (case hx42 => (simp only [List.map_toArray, List.map_cons, List.map_nil, zM]; (try rfl))); try simp only [zL])
   refine TD.eff (by simp only [zK]; rfl) rfl (fun w2 hr => ?_)
   have kp40 := hr.box p40 _ (by first | exact Bx.set_same _ _ _ | (simp only [Bx.set_same]; rfl)); dsimp only [Value.cells] at kp40; obtain ⟨gp40, kp40⟩ := kp40
   have HMa := Lib.hid (HM.out.then0 hr.mod)
   obtain ⟨v3, w3, hap, hO3, m3⟩ := byte_more (x := x) (HO.out.mod0 hr.mod) kp40 (by simp) HMa.out.size
   have HM : Hid (Mod (fun _ => False) w w3) := Lib.hid (HMa.out.then m3 (fun i hi e => by have := HO.out.lt i e; omega))
   have HO := Lib.hid hO3
   clear hr hO3 m3 kp40 gp40
   (refine eff_append (by simp only [zK]; rfl) (by rfl) rfl ?hx44 ?hz44 hap ?n44; (case hx44 => simp only [zM]; try rfl); (case hz44 => simp only [zM]; try rfl); try simp only [zL])
   (refine TE.val0 (v := ?v45) (by simp only [zK]; rfl) (by rfl) (fun w1 => ?y45) ?n45; (case y45 => go_simp; try with_reducible rfl); try simp only [zL])
   refine TE.nil ?_
   clear hap
   have hOf := HO.out
   simp only [List.nil_append, List.cons_append] at hOf
   rw [← HS.out] at hOf
   obtain ⟨a, c, e1, hcl, hN⟩ := clip_new hOf
   obtain ⟨k, hk⟩ : ∃ k, (shP n).length = k := ⟨_, rfl⟩
   rw [hk] at hcl e1
   subst e1
   have HF := Lib.hid (And.intro hN hk)
   have HCL := Lib.hid hcl
   clear hOf hN hk hcl
   go_wp2_with fail
   go_at_call 39
   refine (clipY_c _ _ _ HCL.out).mono ?_
   rintro e w9 ⟨rfl, rfl⟩
   go_wp2_with fail
   go_ret2
   refine ⟨a, ?_, HF.out.1, HM.out⟩
   rw [HF.out.2]
   rfl
end Go.Proofs.YtiaehkkkcaeaiaaGreatDoor
namespace Go.Proofs.YtiaehkkkcaeaiaaGreatDoor
open Go.RowKit
open Go.ChangeMaps (setBlock)
attribute [local go_sem ↓] wlKey ldKey stKey ldSg stSg wlTc ldTc stTc eqKey1
attribute [local go_sem] cell_blk frozen_blk kc_ext one_int one_bool one_ptr one_slice one_map kc_one kc_one0 kc_size zKey_size sgc_size sgc_ext sgc_one0 sgc_one' txr_size txr_all txr_one txr_one' txr0 txr38 txr39 txr0' txr38' txr39' zTx_size Value.cells
attribute [local go_sem ↓] wlMsg ldMsg stMsg wlIn ldIn stIn wlLo ldLo stLo
attribute [local go_sem] mgx_size mgx_ext mgx_one mgx_one0 mg0 mg1 mg2 mg3 mg4 mg37 mg38 mg37' mg38' mgx_hd mgx_hs mg0' mg4'
@[local go_sem high] theorem max3_ints {P : Program} (w : World) (ts : Array TypeId) (t : TypeId) (k k' k'' : IntKind) (x y z : Int) : (Builtin.max_ ts t #[.int k x, .int k' y, .int k'' z]).run P w = .ok (.int k (max (max x y) z)) w := by
 have e : (if z > (if y > x then y else x) then z else (if y > x then y else x)) = max (max x y) z := by
  rw [Int.max_def, Int.max_def]
  repeat' split
  all_goals omega
 simp [Builtin.max_, Builtin.max2, e]
theorem inr1B (y : InR) : (inr y)[1]? = some (.slice y.a.a y.a.l.length y.a.c) := rfl
theorem inr1B' (y : InR) (h : 1 < (inr y).size) : (inr y)[1] = .slice y.a.a y.a.l.length y.a.c := rfl
theorem mg1B' {v0 : Bool} {h0 h1 h2 : UInt8} {ka : Option Addr} {kn kc' : Nat} {rc : Key} {ia : Option Addr} {n1 c1 : Nat} {la : Option Addr} {n2 c2 : Nat} (h : 1 < (mgx v0 h0 h1 h2 ka kn kc' rc ia n1 c1 la n2 c2).size) : (mgx v0 h0 h1 h2 ka kn kc' rc ia n1 c1 la n2 c2)[1] = u8v h0 := at_get (mg1 ..) h
theorem mg2B' {v0 : Bool} {h0 h1 h2 : UInt8} {ka : Option Addr} {kn kc' : Nat} {rc : Key} {ia : Option Addr} {n1 c1 : Nat} {la : Option Addr} {n2 c2 : Nat} (h : 2 < (mgx v0 h0 h1 h2 ka kn kc' rc ia n1 c1 la n2 c2).size) : (mgx v0 h0 h1 h2 ka kn kc' rc ia n1 c1 la n2 c2)[2] = u8v h1 := at_get (mg2 ..) h
theorem mg3B' {v0 : Bool} {h0 h1 h2 : UInt8} {ka : Option Addr} {kn kc' : Nat} {rc : Key} {ia : Option Addr} {n1 c1 : Nat} {la : Option Addr} {n2 c2 : Nat} (h : 3 < (mgx v0 h0 h1 h2 ka kn kc' rc ia n1 c1 la n2 c2).size) : (mgx v0 h0 h1 h2 ka kn kc' rc ia n1 c1 la n2 c2)[3] = u8v h2 := at_get (mg3 ..) h
theorem zLoM_size : zLo.size = 34 := lor_size _
attribute [local go_sem] mg1B' mg2B' mg3B' inr1B inr1B' inr2B inr2B' inrB_size inrB_all inrB_one zIn_size lor32 lor33 lor32' lor33' lor_sz lor_al0 zLoM_size
set_option maxRecDepth 20000 in
set_option maxHeartbeats 6400000 in
theorem may_c (x : RdR) (w : World) (hR : MsgRd w x) (hB : MsB (msgP x)) (hv : x.v0 = true ∨ (x.lks.l.length = 0 ∧ x.h0.toNat < 128)) :
  Calls Tryz.prog 105 #[.agg (msr x)] w fun e w' => e = .returned (.bool true) ∧ Mod (fun _ => False) w w' := by
 have HX := Lib.hid hR
 have hB1 := hB.1
 have hB2 := hB.2.1.1
 have hB3 := hB.2.2.1
 have HBI : Hid (∀ y ∈ x.ins.l, y.a.l.length ≤ 65535 ∧ y.d.l.length ≤ 65535) := Lib.hid (fun y hy => hB.2.1.2 (inP y) (List.mem_map_of_mem hy))
 have HBL : Hid (∀ y ∈ x.lks.l, y.w.l.length ≤ 65535 ∧ y.r.l.length ≤ 65535) := Lib.hid (fun y hy => hB.2.2.2 (loP y) (List.mem_map_of_mem hy))
 simp only [msgP, List.length_map] at hB1 hB2 hB3
 show Calls Tryz.prog 105 #[.agg (mgx x.v0 x.h0 x.h1 x.h2 x.ks.a x.ks.l.length x.ks.c x.rc x.ins.a x.ins.l.length x.ins.c x.lks.a x.lks.l.length x.lks.c)] w _
 obtain ⟨n1, hn1⟩ : ∃ n, x.ks.l.length = n := ⟨_, rfl⟩
 obtain ⟨n2, hn2⟩ : ∃ n, x.ins.l.length = n := ⟨_, rfl⟩
 obtain ⟨n3, hn3⟩ : ∃ n, x.lks.l.length = n := ⟨_, rfl⟩
 obtain ⟨h0, hh0⟩ : ∃ h, x.h0.toNat = h := ⟨_, rfl⟩
 obtain ⟨v0, hv0⟩ : ∃ v, x.v0 = v := ⟨_, rfl⟩
 have HH0 := Lib.hid hh0
 rw [hn1, hn2, hn3, hv0]
 rw [hn1] at hB1
 rw [hn2] at hB2
 rw [hn3] at hB3 hv
 rw [hv0, hh0] at hv
 have HN := Lib.hid (And.intro hn2 hn3)
 have HV := Lib.hid hv
 obtain ⟨L0, hL0⟩ : ∃ L, max (max n1 n2) n3 = L := ⟨_, rfl⟩
 have hmx : max (max (n1 : Int) (n2 : Int)) (n3 : Int) = (L0 : Int) := by omega
 have HL0 := Lib.hid (show L0 ≤ 65535 by omega)
 clear hR hB hv hn1 hn2 hn3 hv0 hh0 hL0
 go_enter Tryz.func105, Tryz.ntmps105
 go_upto_region 0 with fail
 refine wp_pass0 (C := fun _ _ _ => False) (κ := fun i => [3, 0].getD i 0) [0, 1] (by kernel_rfl) (by kernel_rfl) (fun _ _ d _ _ h => by cases d <;> first | exact h | exact absurd h (hP _ _ _)) ?_
 (refine TD.box (v := ?v1) (by simp only [zK]; rfl) rfl (by rfl) rfl rfl ?hx1 (fun p1 hp1 => ?n1); (case hx1 => simp only [zM]; try rfl); try simp only [zL])
 (refine TD.val0 (v := ?_) (by simp only [zK]; rfl) rfl (by rfl) (fun w1 => ?_) ?_; rotate_left; (next => go_simp; try with_reducible rfl); try simp only [zL])
 refine TD.nil (fun w1 hr => ?_)
 have kp1 := hr.box p1 _ (by first | exact Bx.set_same _ _ _ | (simp only [Bx.set_same]; rfl)); dsimp only [Value.cells] at kp1; obtain ⟨gp1, kp1⟩ := kp1
 have HM1 := Lib.hid hr.mod
 clear hr
 go_upto_region 1 with fail
 have Lkp1 := lt_size kp1
 refine wp_pass0 (C := fun _ _ _ => False) (κ := fun i => [0, 1, 0, 0, 1, 0, 0, 1, 0, 0, 0].getD i 0) [0, 1, 2, 3, 4, 5, 6, 7, 8, 9, 10] (by kernel_rfl) (by kernel_rfl) (fun _ _ d _ _ h => by cases d <;> first | exact h | exact absurd h (hP _ _ _)) ?_
 iterate 11 first | (refine TD.val0 (v := ?_) (by simp only [zK]; rfl) rfl (by rfl) (fun w1 => ?_) ?_; rotate_left; (next => go_simp; try with_reducible rfl); try simp only [zL]) | (refine TD.load (v := ?_) (p := ?_) (Mod.refl _ _) (by simp only [zK]; rfl) rfl (by rfl) rfl ?_ (fun wq hSq => ?_) ?_; rotate_left 2; (next => simp only [zM]; try rfl); (next => have kp1q := hSq.at kp1 (fun h => h); go_simp; try with_reducible rfl); try simp only [zL])
 refine TD.nil (fun w2 hr => ?_)
 replace kp1 := hr.mod.at kp1 (fun h => h)
 have HM2 := Lib.hid (HM1.out.then0 hr.mod)
 clear hr hmx
 go_upto_region 2 with fail
 have Lkp1 := lt_size kp1
 refine wp_pass0 (C := fun _ _ _ => False) (κ := fun i => [0, 1, 0, 0].getD i 0) [0, 1, 2, 3] (by kernel_rfl) (by kernel_rfl) (fun _ _ d _ _ h => by cases d <;> first | exact h | exact absurd h (hP _ _ _)) ?_
 iterate 4 first | (refine TD.val0 (v := ?_) (by simp only [zK]; rfl) rfl (by rfl) (fun w1 => ?_) ?_; rotate_left; (next => go_simp; try with_reducible rfl); try simp only [zL]) | (refine TD.load (v := ?_) (p := ?_) (Mod.refl _ _) (by simp only [zK]; rfl) rfl (by rfl) rfl ?_ (fun wq hSq => ?_) ?_; rotate_left 2; (next => simp only [zM]; try rfl); (next => have kp1q := hSq.at kp1 (fun h => h); go_simp; try with_reducible rfl); try simp only [zL])
 refine TD.nil (fun w3 hr => ?_)
 replace kp1 := hr.mod.at kp1 (fun h => h)
 have HM3 := Lib.hid (HM2.out.then0 hr.mod)
 clear hr
 go_wp2_with fail
 go_loopw [3, 21] (fun s3 s21 ws => ∃ i L : Nat, i ≤ n2 ∧ s21 = .int .i64 (i : Int) ∧ s3 = .int .i64 (L : Int) ∧ Hid (L ≤ 65535) ∧ Hid (Mod (fun _ => False) w ws) ∧ ws.heap[p1]? = some (.cells (mgx v0 x.h0 x.h1 x.h2 x.ks.a n1 x.ks.c x.rc x.ins.a n2 x.ins.c x.lks.a n3 x.lks.c) 33 (0, 0))) (fun _ s21 _ => n2 - (intOf s21).toNat)
 case atStart => exact ⟨0, L0, Nat.zero_le _, rfl, rfl, HL0, HM3, kp1⟩
 case round =>
  clear kp1
  obtain ⟨i, L, hi, rfl, rfl, HL, HM, kp1⟩ := hrel
  by_cases hlt : i < n2
  ·have hd := decide_eq_true hlt
   obtain ⟨y, hy⟩ : ∃ y, x.ins.l[i]? = some y := ⟨_, List.getElem?_eq_getElem (by have := HN.out; omega)⟩
   obtain ⟨g, o, C, U, fr, hga, kg, he, hle⟩ := (HX.out.2.1.1.mod0 HM.out).block hy
   have hyb := HBI.out y (List.mem_of_getElem? hy)
   obtain ⟨ya, hya⟩ : ∃ n, y.a.l.length = n := ⟨_, rfl⟩
   obtain ⟨yd, hyd⟩ : ∃ n, y.d.l.length = n := ⟨_, rfl⟩
   rw [hya, hyd] at hyb
   obtain ⟨L1, hL1⟩ : ∃ L1, max (max L ya) yd = L1 := ⟨_, rfl⟩
   have hmx : max (max (L : Int) (ya : Int)) (yd : Int) = (L1 : Int) := by omega
   have HL1 := Lib.hid (show L1 ≤ 65535 by have := HL.out; omega)
   have hi1 := inr1B y
   have hi2 := inr2B y
   have hi1' := inr1B' y
   have hi2' := inr2B' y
   rw [hya] at hi1 hi1'
   rw [hyd] at hi2 hi2'
   clear hy hya hyd hyb hL1
   go_upto_region 4 with fail
   have Lkp1 := lt_size kp1
   have Lkg := lt_size kg
   refine wp_pass0 (C := fun _ _ _ => False) (κ := fun i => [0, 1, 3, 4].getD i 0) [0, 1, 2, 3] (by kernel_rfl) (by kernel_rfl) (fun _ _ d _ _ h => by cases d <;> first | exact h | exact absurd h (hP _ _ _)) ?_
   (refine TD.val0 (v := ?_) (by simp only [zK]; rfl) rfl (by rfl) (fun w1 => ?_) ?_; rotate_left; (next => go_simp; try with_reducible rfl); try simp only [zL])
   (refine TD.load (v := ?_) (p := ?_) (Mod.refl _ _) (by simp only [zK]; rfl) rfl (by rfl) rfl ?_ (fun wq hSq => ?_) ?_; rotate_left 2; (next => simp only [zM]; try rfl); (next => have kp1q := hSq.at kp1 (fun h => h); have kgq := hSq.at kg (fun h => h); go_simp; try with_reducible rfl); try simp only [zL])
   (refine TD.allocB (by simp only [zK]; rfl) rfl (by rfl) rfl rfl alIn (fun p5 hp5 => ?n20); try simp only [zL])
   (refine TD.storeB (d := ?d21) (T := ?T21) (y := ?y21) (p := ?p21) (b := ?b21) (v := ?v21) (by simp only [zK]; rfl) rfl (by rfl) ?hd21 ?hop21 ?hev21 ?hx21 ?hb21 ?htag21 (fun w1 hb1 => ?hy21) ?hn21; (case hd21 => rfl); (case hop21 => rfl); (case hev21 => (simp only [zM]; (try rfl))); (case hx21 => simp only [zM]; try rfl); (case hb21 => first | exact Bx.set_same _ _ _ | (simp only [Bx.set_same]; rfl)); (case hy21 => (go_simp; (try first | with_reducible rfl | (rw [setCell_blk hb1]; rfl)))); try simp only [zL])
   refine TD.nil (fun w4 hr => ?_)
   replace kp1 := hr.mod.at kp1 (fun h => h)
   replace kg := hr.mod.at kg (fun h => h)
   have kp5 := hr.box p5 _ (by first | exact Bx.set_same _ _ _ | (simp only [Bx.set_same]; rfl)); dsimp only [Value.cells] at kp5; obtain ⟨gp5, kp5⟩ := kp5
   have HM4 := Lib.hid (HM.out.then0 hr.mod)
   clear hr he hle kg hga
   go_upto_region 5 with fail
   have Lkp1 := lt_size kp1
   have Lkp5 := lt_size kp5
   refine wp_pass0 (C := fun _ _ _ => False) (κ := fun i => [0, 0, 1, 0, 0, 1, 0, 0, 0].getD i 0) [0, 1, 2, 3, 4, 5, 6, 7, 8] (by kernel_rfl) (by kernel_rfl) (fun _ _ d _ _ h => by cases d <;> first | exact h | exact absurd h (hP _ _ _)) ?_
   iterate 9 first | (refine TD.val0 (v := ?_) (by simp only [zK]; rfl) rfl (by rfl) (fun w1 => ?_) ?_; rotate_left; (next => go_simp; try with_reducible rfl); try simp only [zL]) | (refine TD.load (v := ?_) (p := ?_) (Mod.refl _ _) (by simp only [zK]; rfl) rfl (by rfl) rfl ?_ (fun wq hSq => ?_) ?_; rotate_left 2; (next => simp only [zM]; try rfl); (next => have kp1q := hSq.at kp1 (fun h => h); have kp5q := hSq.at kp5 (fun h => h); go_simp; try with_reducible rfl); try simp only [zL])
   refine TD.nil (fun w5 hr => ?_)
   replace kp1 := hr.mod.at kp1 (fun h => h)
   replace kp5 := hr.mod.at kp5 (fun h => h)
   have HM5 := Lib.hid (HM4.out.then0 hr.mod)
   clear hr
   go_wp2_with fail
   go_roundw
   case rel => exact ⟨i + 1, L1, by omega, by go_num, rfl, HL1, HM5, kp1⟩
   case measure => simp [intOf]; omega
  ·have hd := decide_eq_false hlt
   clear hi hlt
   go_upto_region 7 with fail
   have Lkp1 := lt_size kp1
   refine wp_pass0 (C := fun _ _ _ => False) (κ := fun i => [0, 1, 0, 0].getD i 0) [0, 1, 2, 3] (by kernel_rfl) (by kernel_rfl) (fun _ _ d _ _ h => by cases d <;> first | exact h | exact absurd h (hP _ _ _)) ?_
   iterate 4 first | (refine TD.val0 (v := ?_) (by simp only [zK]; rfl) rfl (by rfl) (fun w1 => ?_) ?_; rotate_left; (next => go_simp; try with_reducible rfl); try simp only [zL]) | (refine TD.load (v := ?_) (p := ?_) (Mod.refl _ _) (by simp only [zK]; rfl) rfl (by rfl) rfl ?_ (fun wq hSq => ?_) ?_; rotate_left 2; (next => simp only [zM]; try rfl); (next => have kp1q := hSq.at kp1 (fun h => h); go_simp; try with_reducible rfl); try simp only [zL])
   refine TD.nil (fun w6 hr => ?_)
   replace kp1 := hr.mod.at kp1 (fun h => h)
   have HM6 := Lib.hid (HM.out.then0 hr.mod)
   clear hr
   go_wp2_with fail
   go_loopw [3, 37] (fun s3 s37 ws => ∃ i L : Nat, i ≤ n3 ∧ s37 = .int .i64 (i : Int) ∧ s3 = .int .i64 (L : Int) ∧ Hid (L ≤ 65535) ∧ Hid (Mod (fun _ => False) w ws) ∧ ws.heap[p1]? = some (.cells (mgx v0 x.h0 x.h1 x.h2 x.ks.a n1 x.ks.c x.rc x.ins.a n2 x.ins.c x.lks.a n3 x.lks.c) 33 (0, 0))) (fun _ s37 _ => n3 - (intOf s37).toNat)
   case atStart => exact ⟨0, L, Nat.zero_le _, rfl, rfl, HL, HM6, kp1⟩
   case round =>
    clear kp1 HL HM HM6
    obtain ⟨i, L, hi, rfl, rfl, HL, HM, kp1⟩ := hrel
    by_cases hlt : i < n3
    ·have hd := decide_eq_true hlt
     obtain ⟨y, hy⟩ : ∃ y, x.lks.l[i]? = some y := ⟨_, List.getElem?_eq_getElem (by have := HN.out; omega)⟩
     obtain ⟨g, o, C, U, fr, hga, kg, he, hle⟩ := (HX.out.2.2.1.mod0 HM.out).block hy
     have hyb := HBL.out y (List.mem_of_getElem? hy)
     obtain ⟨ya, hya⟩ : ∃ n, y.w.l.length = n := ⟨_, rfl⟩
     obtain ⟨yd, hyd⟩ : ∃ n, y.r.l.length = n := ⟨_, rfl⟩
     rw [hya, hyd] at hyb
     obtain ⟨L1, hL1⟩ : ∃ L1, max (max L ya) yd = L1 := ⟨_, rfl⟩
     have hmx : max (max (L : Int) (ya : Int)) (yd : Int) = (L1 : Int) := by omega
     have HL1 := Lib.hid (show L1 ≤ 65535 by have := HL.out; omega)
     have hi1 := lor32 y
     have hi2 := lor33 y
     have hi1' := lor32' y
     have hi2' := lor33' y
     rw [hya] at hi1 hi1'
     rw [hyd] at hi2 hi2'
     clear hy hya hyd hyb hL1
     go_upto_region 9 with fail
     have Lkp1 := lt_size kp1
     have Lkg := lt_size kg
     refine wp_pass0 (C := fun _ _ _ => False) (κ := fun i => [0, 1, 3, 4].getD i 0) [0, 1, 2, 3] (by kernel_rfl) (by kernel_rfl) (fun _ _ d _ _ h => by cases d <;> first | exact h | exact absurd h (hP _ _ _)) ?_
     (refine TD.val0 (v := ?_) (by simp only [zK]; rfl) rfl (by rfl) (fun w1 => ?_) ?_; rotate_left; (next => go_simp; try with_reducible rfl); try simp only [zL])
     (refine TD.load (v := ?_) (p := ?_) (Mod.refl _ _) (by simp only [zK]; rfl) rfl (by rfl) rfl ?_ (fun wq hSq => ?_) ?_; rotate_left 2; (next => simp only [zM]; try rfl); (next => have kp1q := hSq.at kp1 (fun h => h); have kgq := hSq.at kg (fun h => h); go_simp; try with_reducible rfl); try simp only [zL])
     (refine TD.allocB (by simp only [zK]; rfl) rfl (by rfl) rfl rfl alLo (fun p7 hp7 => ?n37); try simp only [zL])
     (refine TD.storeB (d := ?d38) (T := ?T38) (y := ?y38) (p := ?p38) (b := ?b38) (v := ?v38) (by simp only [zK]; rfl) rfl (by rfl) ?hd38 ?hop38 ?hev38 ?hx38 ?hb38 ?htag38 (fun w1 hb1 => ?hy38) ?hn38; (case hd38 => rfl); (case hop38 => rfl); (case hev38 => (simp only [zM]; (try rfl))); (case hx38 => simp only [zM]; try rfl); (case hb38 => first | exact Bx.set_same _ _ _ | (simp only [Bx.set_same]; rfl)); (case hy38 => (go_simp; (try first | with_reducible rfl | (rw [setCell_blk hb1]; rfl)))); try simp only [zL])
     refine TD.nil (fun w7 hr => ?_)
     replace kp1 := hr.mod.at kp1 (fun h => h)
     replace kg := hr.mod.at kg (fun h => h)
     have kp7 := hr.box p7 _ (by first | exact Bx.set_same _ _ _ | (simp only [Bx.set_same]; rfl)); dsimp only [Value.cells] at kp7; obtain ⟨gp7, kp7⟩ := kp7
     have HM4 := Lib.hid (HM.out.then0 hr.mod)
     clear hr he hle kg hga
     go_upto_region 10 with fail
     have Lkp1 := lt_size kp1
     have Lkp7 := lt_size kp7
     refine wp_pass0 (C := fun _ _ _ => False) (κ := fun i => [0, 0, 1, 0, 0, 1, 0, 0, 0].getD i 0) [0, 1, 2, 3, 4, 5, 6, 7, 8] (by kernel_rfl) (by kernel_rfl) (fun _ _ d _ _ h => by cases d <;> first | exact h | exact absurd h (hP _ _ _)) ?_
     iterate 9 first | (refine TD.val0 (v := ?_) (by simp only [zK]; rfl) rfl (by rfl) (fun w1 => ?_) ?_; rotate_left; (next => go_simp; try with_reducible rfl); try simp only [zL]) | (refine TD.load (v := ?_) (p := ?_) (Mod.refl _ _) (by simp only [zK]; rfl) rfl (by rfl) rfl ?_ (fun wq hSq => ?_) ?_; rotate_left 2; (next => simp only [zM]; try rfl); (next => have kp1q := hSq.at kp1 (fun h => h); have kp7q := hSq.at kp7 (fun h => h); go_simp; try with_reducible rfl); try simp only [zL])
     refine TD.nil (fun w8 hr => ?_)
     replace kp1 := hr.mod.at kp1 (fun h => h)
     replace kp7 := hr.mod.at kp7 (fun h => h)
     have HM5 := Lib.hid (HM4.out.then0 hr.mod)
     clear hr
     go_wp2_with fail
     go_roundw
     case rel => exact ⟨i + 1, L1, by omega, by go_num, rfl, HL1, HM5, kp1⟩
     case measure => simp [intOf]; omega
    ·have hd := decide_eq_false hlt
     have hl1 := HL.out
     have hl2 : decide ((L : Int) ≤ 65535) = true := decide_eq_true (by omega)
     have hl3 := decide_eq_true hl1
     clear hi hlt
     cases v0 with
     | true =>
      go_upto_region 12 with fail
      have Lkp1 := lt_size kp1
      refine wp_pass0 (C := fun _ _ _ => False) (κ := fun i => [0, 0, 0, 0, 1, 0, 0, 1, 0, 0, 0, 0, 0, 1, 0, 0, 0, 0, 0].getD i 0) [0, 1, 2, 3, 4, 5, 6, 7, 8, 9, 10, 11, 12, 13, 14, 15, 16, 17, 18] (by kernel_rfl) (by kernel_rfl) (fun _ _ d _ _ h => by cases d <;> first | exact h | exact absurd h (hP _ _ _)) ?_
      iterate 6 first | (refine TD.val0 (v := ?_) (by simp only [zK]; rfl) rfl (by rfl) (fun w1 => ?_) ?_; rotate_left; (next => go_simp; try with_reducible rfl); try simp only [zL]) | (refine TD.load (v := ?_) (p := ?_) (Mod.refl _ _) (by simp only [zK]; rfl) rfl (by rfl) rfl ?_ (fun wq hSq => ?_) ?_; rotate_left 2; (next => simp only [zM]; try rfl); (next => have kp1q := hSq.at kp1 (fun h => h); go_simp; try with_reducible rfl); try simp only [zL])
      (refine TD.pass (by simp only [zK]; rfl) rfl (by rfl) ?_; try simp only [zL])
      (refine TD.pass1 (by simp only [zK]; rfl) rfl (by rfl) ?_; try simp only [zL])
      iterate 5 (refine TD.pass (by simp only [zK]; rfl) rfl (by rfl) ?_; try simp only [zL])
      (refine TD.pass1 (by simp only [zK]; rfl) rfl (by rfl) ?_; try simp only [zL])
      iterate 2 (refine TD.pass (by simp only [zK]; rfl) rfl (by rfl) ?_; try simp only [zL])
      iterate 3 (refine TD.val0 (v := ?_) (by simp only [zK]; rfl) rfl (by rfl) (fun w1 => ?_) ?_; rotate_left; (next => go_simp; try with_reducible rfl); try simp only [zL])
      refine TD.nil (fun w9 hr => ?_)
      replace kp1 := hr.mod.at kp1 (fun h => h)
      have HM9 := Lib.hid (HM.out.then0 hr.mod)
      clear hr
      go_wp2_with fail
      go_ret
      exact ⟨rfl, HM9.out⟩
     | false =>
      obtain ⟨hz, hh⟩ := HV.out.resolve_left (by decide)
      rw [← HH0.out] at hh
      have hz1 : ((n3 : Int) == 0) = true := by simp [hz]
      have hz2 : (n3 == 0) = true := by simp [hz]
      have hz3 : decide ((n3 : Int) = 0) = true := by simp [hz]
      have hh1 : decide ((x.h0.toNat : Int) < 128) = true := decide_eq_true (by omega)
      have hh2 := decide_eq_true hh
      clear hz hh
      go_upto_region 12 with fail
      have Lkp1 := lt_size kp1
      refine wp_pass0 (C := fun _ _ _ => False) (κ := fun i => [0, 0, 0, 0, 1, 0, 0, 1, 0, 0, 0, 0, 0, 1, 0, 0, 0, 0, 0].getD i 0) [0, 1, 2, 3, 4, 5, 6, 7, 8, 9, 10, 11, 12, 13, 14, 15, 16, 17, 18] (by kernel_rfl) (by kernel_rfl) (fun _ _ d _ _ h => by cases d <;> first | exact h | exact absurd h (hP _ _ _)) ?_
      iterate 19 first | (refine TD.val0 (v := ?_) (by simp only [zK]; rfl) rfl (by rfl) (fun w1 => ?_) ?_; rotate_left; (next => go_simp; try with_reducible rfl); try simp only [zL]) | (refine TD.load (v := ?_) (p := ?_) (Mod.refl _ _) (by simp only [zK]; rfl) rfl (by rfl) rfl ?_ (fun wq hSq => ?_) ?_; rotate_left 2; (next => simp only [zM]; try rfl); (next => have kp1q := hSq.at kp1 (fun h => h); go_simp; try with_reducible rfl); try simp only [zL])
      refine TD.nil (fun w9 hr => ?_)
      replace kp1 := hr.mod.at kp1 (fun h => h)
      have HM9 := Lib.hid (HM.out.then0 hr.mod)
      clear hr
      go_wp2_with fail
      go_ret
      exact ⟨rfl, HM9.out⟩
end Go.Proofs.YtiaehkkkcaeaiaaGreatDoor
namespace Go.Proofs.YtiaehkkkcaeaiaaGreatDoor
open Go.RowKit
theorem eff_append2 {P : Program} {ops : Array Oper} {Q : Exit → Act → World → Prop} {i : Nat} {a : Act} {o : Oper} {K : Act → World → Prop} {w w' : World} {t t2 : TypeId} {s x : Operand} {v u v' : Value} (ho : ops[i]? = some o) (hw : Region.wanted o (yielded ops a.tmps) = true)
  (hop : o.op = .call { callee := .builtin .append, args := #[s, x], argTypes := #[t, t2] }) (hs : a.eval s = v) (hx : a.eval x = u) (hr : (Builtin.append_ #[t, t2] o.type #[v, u]).run P w = .ok v' w')
  (h : K (a.put o.dst v') w') : wpOp P ops Q i K a w :=
 eff_value ho hw (by subst hs; subst hx; simp [execOp, hop, resolve, invoke, builtin, hr]) h
end Go.Proofs.YtiaehkkkcaeaiaaGreatDoor
namespace Go.Proofs.YtiaehkkkcaeaiaaGreatDoor
open Go.RowKit
open Go.ChangeMaps (setBlock)
attribute [local go_sem ↓] wlKey ldKey stKey ldSg stSg wlTc ldTc stTc eqKey1
attribute [local go_sem] cell_blk frozen_blk kc_ext one_int one_bool one_ptr one_slice one_map kc_one kc_one0 kc_size zKey_size sgc_size sgc_ext sgc_one0 sgc_one' txr_size txr_all txr_one txr_one' txr0 txr38 txr39 txr0' txr38' txr39' zTx_size Value.cells
attribute [local go_sem ↓] wlMsg ldMsg stMsg wlIn ldIn stIn wlLo ldLo stLo
attribute [local go_sem] mgx_size mgx_ext mgx_one mgx_one0 mg0 mg1 mg2 mg3 mg4 mg37 mg38 mg37' mg38' mgx_hd mgx_hs mg0' mg4'
theorem layT : ElT Tryz.prog 170 5 uc 1 1 where
 u := Tryz.underlying170
 info := by
  obtain ⟨i0, hi, hz0, hz1, hz2⟩ := info_parts (show (Tryz.prog.info? 5).map (fun i => (i.zero, i.size, i.bytes)) = some (some (.int .u8 0), 1, 1) by kernel_rfl)
  exact ⟨i0, _, hi, hz0, hz1, hz2, rfl⟩
 pos := by omega
 size x := rfl
 one x := bytesT.one x
theorem app_mix (ty : TypeId) (args : Array Value) (w : World) : (Builtin.append_ #[170, 22] ty args).run Tryz.prog w = (Builtin.append_ #[170, 170] ty args).run Tryz.prog w := by
 have h1 : ∀ w, (underlying 170).run Tryz.prog w = .ok (.slice 5) w := fun w => run_underlying Tryz.underlying170 w
 have h2 : ∀ w, (underlying 22).run Tryz.prog w = .ok (.slice 5) w := fun w => run_underlying Tryz.underlying22 w
 unfold Builtin.append_
 cases h0 : args[0]? with
 | none => rfl
 | some v =>
  cases h3 : args[1]? with
  | none => rfl
  | some u =>
   have h4 : ∀ w, (sizeOf 5).run Tryz.prog w = .ok 1 w := fun w => by kernel_rfl
   cases v <;> simp [h1, h2, h4]
def LyG (p b : Nat) (v : Value) (B : List UInt8) (w : World) : Prop := w.heap[p]? = some (.cells #[v] 170 (0, 0)) ∧ SlOwn uc 1 5 w b v B ∧ p < b
def LyC (p : Nat) (v v' : Value) (w w' : World) : Prop := Mod (fun i => i = p ∨ v.ownBlock = some i) w w' ∧ (v'.ownBlock = v.ownBlock ∨ ∃ g, v'.ownBlock = some g ∧ w.heap.size ≤ g)
theorem LyG.ne {p b : Nat} {v : Value} {B : List UInt8} {w : World} (h : LyG p b v B w) : v.ownBlock ≠ some p := fun e => by
 have := (h.2.1.lt p e).1
 have := h.2.2
 omega
theorem ly_app {p b : Nat} {v : Value} {B q : List UInt8} {a : Option Addr} {c : Nat} {w : World} (h : LyG p b v B w) (hq : SlAt uc 1 w a q) (hl : B.length + q.length ≤ 1000000) (hb : b ≤ w.heap.size) (ty : TypeId) :
  ∃ v' w', (∃ a' m' c', v' = .slice a' m' c') ∧ (Builtin.append_ #[170, 170] ty #[v, .slice a q.length c]).run Tryz.prog w = .ok v' w' ∧ (Builtin.append_ #[170, 22] ty #[v, .slice a q.length c]).run Tryz.prog w = .ok v' w' ∧ w'.heap[p]? = some (.cells #[v] 170 (0, 0)) ∧ Mod (fun i => v.ownBlock = some i) w w' ∧
   (∀ w2, Mod (fun i => i = p) w' w2 → w2.heap[p]? = some (.cells #[v'] 170 (0, 0)) → LyG p b v' (B ++ q) w2 ∧ LyC p v v' w w2) := by
 obtain ⟨v', w', h1, h2, h3, h4⟩ := SlOwn.append layT (c := c) h.2.1 hq hl (by decide) hb ty
 have hpl := lt_size h.1
 have hne := h.ne
 obtain ⟨a', c', e', _⟩ := h2.at layT
 refine ⟨v', w', ⟨_, _, _, e'⟩, h1, by rw [app_mix]; exact h1, h3.at h.1 (fun e => hne e), h3, fun w2 m2 k2 => ⟨⟨k2, h2.mod m2 (fun g hg e => ?_), h.2.2⟩, (h3.mono (fun i _ e => .inr e)).trans (m2.mono (fun i _ e => .inl e)), ?_⟩⟩
 ·rcases h4 with h4 | h4
  ·rw [h4] at hg
   rw [e] at hg
   exact hne hg
  ·rw [h4] at hg
   cases hg
   omega
 ·rcases h4 with h4 | h4
  ·exact .inl h4
  ·exact .inr ⟨_, h4, Nat.le_refl _⟩
theorem LyC.trans {p : Nat} {u v x : Value} {w w1 w2 : World} (h : LyC p u v w w1) (k : LyC p v x w1 w2) : LyC p u x w w2 := by
 refine ⟨h.1.then k.1 (fun i hi e => ?_), ?_⟩
 ·rcases e with e | e
  ·exact .inl e
  ·rcases h.2 with h2 | ⟨g, h2, h3⟩
   ·rw [h2] at e
    exact .inr e
   ·rw [h2] at e
    cases e
    omega
 ·rcases k.2 with k2 | ⟨g, k2, k3⟩
  ·rcases h.2 with h2 | ⟨g, h2, h3⟩
   ·exact .inl (k2.trans h2)
   ·exact .inr ⟨g, k2.trans h2, h3⟩
  ·exact .inr ⟨g, k2, Nat.le_trans h.1.size k3⟩
theorem LyC.pre {p : Nat} {v x : Value} {w w1 w2 : World} (h : Mod (fun _ => False) w w1) (k : LyC p v x w1 w2) : LyC p v x w w2 :=
 ⟨(h.mono (fun _ _ e => e.elim)).trans k.1, k.2.imp_right (fun ⟨g, k2, k3⟩ => ⟨g, k2, Nat.le_trans h.size k3⟩)⟩
theorem LyC.post {p : Nat} {v x : Value} {w w1 w2 : World} (k : LyC p v x w w1) (h : Mod (fun _ => False) w1 w2) : LyC p v x w w2 :=
 ⟨k.1.trans (h.mono (fun _ _ e => e.elim)), k.2⟩
theorem LyG.mod0 {p b : Nat} {v : Value} {B : List UInt8} {w w' : World} (h : LyG p b v B w) (hm : Mod (fun _ => False) w w') : LyG p b v B w' := ⟨hm.at h.1 (fun e => e), h.2.1.mod0 hm, h.2.2⟩
theorem LyC.at {p q : Nat} {v v' : Value} {w w' : World} {o : Obj} (h : LyC p v v' w w') (hq : w.heap[q]? = some o) (hp : q ≠ p) (hv : v.ownBlock ≠ some q) : w'.heap[q]? = some o ∧ v'.ownBlock ≠ some q := by
 refine ⟨h.1.at hq (fun e => e.elim hp hv), fun e => ?_⟩
 rcases h.2 with h2 | ⟨g, h2, h3⟩
 ·rw [h2] at e
  exact hv e
 ·rw [h2] at e
  cases e
  have := lt_size hq
  omega
set_option maxRecDepth 20000 in
set_option maxHeartbeats 3200000 in
theorem many_c {p b : Nat} {v : Value} {B : List UInt8} (n : Nat) (hn : n ≤ 65535) (w : World) (h : LyG p b v B w) (hB : B.length ≤ 900000) (hb : b ≤ w.heap.size) :
  Calls Tryz.prog 106 #[pV p, .int .i64 (n : Int)] w fun e w' => e = .returned (.tuple #[]) ∧ ∃ v', LyG p b v' (B ++ shP n) w' ∧ LyC p v v' w w' := by
 have HG := Lib.hid (And.intro h (And.intro hB hb))
 have HN := Lib.hid hn
 clear h hB hb hn
 go_enter Tryz.func106, Tryz.ntmps106
 go_wp2_with fail
 go_at_call 64
 refine (putShort_c n HN.out _).mono ?_
 rintro e w1 ⟨a, rfl, hN, m1⟩
 have hs := ns_rd hN
 have HL1 := HG.out.1.mod0 m1
 have hsl : (shP n).length ≤ 3 := by
  unfold shP
  split
  ·simp
  ·split <;> simp
 have kp := HL1.1
 obtain ⟨k, hk⟩ : ∃ k, (shP n).length = k := ⟨_, rfl⟩
 have HS := Lib.hid (And.intro hs (And.intro HL1 (And.intro hsl (And.intro m1 hk))))
 rw [hk]
 clear hs hN HL1 hsl m1 hk
 go_upto_region 1 with fail
 have Lkp := lt_size kp
 refine wp_pass0 (C := fun _ _ _ => False) (κ := fun i => [0, 0, 0, 1, 0, 5, 0, 6].getD i 0) [0, 1, 2, 3, 4, 5, 6, 7] (by kernel_rfl) (by kernel_rfl) (fun _ _ d _ _ h => by cases d <;> first | exact h | exact absurd h (hP _ _ _)) ?_
 iterate 5 first | (refine TD.val0 (v := ?_) (by simp only [zK]; rfl) rfl (by rfl) (fun w1 => ?_) ?_; rotate_left; (next => go_simp; try with_reducible rfl); try simp only [zL]) | (refine TD.load (v := ?_) (p := ?_) (Mod.refl _ _) (by simp only [zK]; rfl) rfl (by rfl) rfl ?_ (fun wq hSq => ?_) ?_; rotate_left 2; (next => simp only [zM]; try rfl); (next => have kpq := hSq.at kp (fun h => h); go_simp; try with_reducible rfl); try simp only [zL])
 refine TD.eff (by simp only [zK]; rfl) rfl (fun w2 hr => ?_)
 replace kp := hr.mod.at kp (fun h => h)
 have HMP := Lib.hid hr.mod
 obtain ⟨v2, wx, ⟨a2, q2, c2, rfl⟩, hap1, hap, k2, m2, hfin⟩ := ly_app (c := k) ((HS.out.2.1).mod0 hr.mod) (HS.out.1.mod0 hr.mod) (by have := HG.out.2.1; have := HS.out.2.2.1; omega) (Nat.le_trans HG.out.2.2 (Nat.le_trans HS.out.2.2.2.1.size hr.mod.size)) 170
 rw [HS.out.2.2.2.2] at hap
 have HFN := Lib.hid hfin
 have HMX := Lib.hid m2
 clear hr hfin m2 kp
 have kp := k2
 clear k2
 (refine eff_append2 (by simp only [zK]; rfl) (by rfl) rfl ?hx7 ?hz7 hap ?n7; (case hx7 => simp only [zM]; try rfl); (case hz7 => simp only [zM]; try rfl); try simp only [zL])
 (refine TE.val0 (v := ?v8) (by simp only [zK]; rfl) (by rfl) (fun w1 => ?y8) ?n8; (case y8 => go_simp; try with_reducible rfl); try simp only [zL])
 refine TE.step (by simp only [zK]; rfl) rfl ?_
 (refine eff_store (X := ?X9) (Y := ?Y9) (w' := ?w9) (by simp only [zK]; rfl) (by rfl) rfl ?hx9 ?hz9 ?y9 ?n9; (case hx9 => simp only [zM]; try rfl); (case hz9 => simp only [zM]; try rfl); (case y9 => go_simp; try with_reducible rfl))
 (first | refine TE.nil_set kp (fun wn kp mS => ?_) | refine TE.nil_setCell kp (fun wn kp mS => ?_))
 (try simp only [Array.setIfInBounds, zL] at kp)
 have HLY := Lib.hid (HFN.out _ mS kp)
 clear mS HFN
 go_wp2_with fail
 go_end0
 exact ⟨rfl, _, HLY.out.1, LyC.pre (HS.out.2.2.2.1.then0 HMP.out) HLY.out.2⟩
theorem LyM {p b : Nat} {v v' : Value} {B : List UInt8} {w0 w w' : World} (h : Mod (fun _ => False) w0 w) (hG : LyG p b v B w) (k : LyC p v v' w w') (hp : w0.heap.size ≤ p) : Mod (fun _ => False) w0 w' :=
 h.then k.1 (fun i hi e => by
  rcases e with e | e
  ·omega
  ·have := (hG.2.1.lt i e).1
   have := hG.2.2
   omega)
set_option maxRecDepth 20000 in
set_option maxHeartbeats 3200000 in
theorem list_c {p b : Nat} {v : Value} {B l : List UInt8} {a : Option Addr} {c : Nat} (w : World) (h : LyG p b v B w) {w0 : World} (hl : SlAt uc 1 w0 a l) (hlm : Mod (fun _ => False) w0 w) (hlp : w0.heap.size ≤ p) (hn : l.length ≤ 65535) (hB : B.length ≤ 800000) (hb : b ≤ w.heap.size) :
  Calls Tryz.prog 107 #[pV p, .slice a l.length c] w fun e w' => e = .returned (.tuple #[]) ∧ ∃ v', LyG p b v' (B ++ lisP l) w' ∧ LyC p v v' w w' := by
 have HG := Lib.hid (And.intro h (And.intro hB hb))
 have HL := Lib.hid (And.intro hl (And.intro (And.intro hlm hlp) hn))
 obtain ⟨n, hnl⟩ : ∃ n, l.length = n := ⟨_, rfl⟩
 have HN := Lib.hid hnl
 have HMY := Lib.hid (many_c n (by omega) w h (by omega) hb)
 rw [hnl]
 clear h hB hb hl hlm hlp hn hnl
 go_enter Tryz.func107, Tryz.ntmps107
 go_wp2_with fail
 go_at_call 106
 refine HMY.out.mono ?_
 rintro e w1 ⟨rfl, v1, hG1, hC1⟩
 have hs : SlAt uc 1 w1 a l := HL.out.1.mod0 (LyM HL.out.2.1.1 HG.out.1 hC1 HL.out.2.1.2)
 have kp := hG1.1
 have HS := Lib.hid (And.intro hs (And.intro hG1 hC1))
 have HSL : Hid ((B ++ shP n).length + l.length ≤ 1000000) := Lib.hid (by
  have hsl : (shP n).length ≤ 3 := by
   unfold shP
   split
   ·simp
   ·split <;> simp
  rw [List.length_append]
  have := HG.out.2.1
  have := HL.out.2.2
  omega)
 clear hs hG1 hC1
 go_upto_region 1 with fail
 have Lkp := lt_size kp
 refine wp_pass0 (C := fun _ _ _ => False) (κ := fun i => [0, 0, 0, 1, 0, 5, 0, 6].getD i 0) [0, 1, 2, 3, 4, 5, 6, 7] (by kernel_rfl) (by kernel_rfl) (fun _ _ d _ _ h => by cases d <;> first | exact h | exact absurd h (hP _ _ _)) ?_
 iterate 5 first | (refine TD.val0 (v := ?_) (by simp only [zK]; rfl) rfl (by rfl) (fun w1 => ?_) ?_; rotate_left; (next => go_simp; try with_reducible rfl); try simp only [zL]) | (refine TD.load (v := ?_) (p := ?_) (Mod.refl _ _) (by simp only [zK]; rfl) rfl (by rfl) rfl ?_ (fun wq hSq => ?_) ?_; rotate_left 2; (next => simp only [zM]; try rfl); (next => have kpq := hSq.at kp (fun h => h); go_simp; try with_reducible rfl); try simp only [zL])
 refine TD.eff (by simp only [zK]; rfl) rfl (fun w2 hr => ?_)
 replace kp := hr.mod.at kp (fun h => h)
 have HMP := Lib.hid hr.mod
 obtain ⟨v2, wx, ⟨a2, q2, c2, rfl⟩, hap1, hap, k2, m2, hfin⟩ := ly_app (c := c) ((HS.out.2.1).mod0 hr.mod) (HS.out.1.mod0 hr.mod) HSL.out (Nat.le_trans HG.out.2.2 (Nat.le_trans HS.out.2.2.1.size hr.mod.size)) 170
 rw [HN.out] at hap
 have HFN := Lib.hid hfin
 have HMX := Lib.hid m2
 clear hr hfin m2 kp
 have kp := k2
 clear k2
 (refine eff_append2 (by simp only [zK]; rfl) (by rfl) rfl ?hx16 ?hz16 hap ?n16; (case hx16 => simp only [zM]; try rfl); (case hz16 => simp only [zM]; try rfl); try simp only [zL])
 (refine TE.val0 (v := ?v17) (by simp only [zK]; rfl) (by rfl) (fun w1 => ?y17) ?n17; (case y17 => go_simp; try with_reducible rfl); try simp only [zL])
 refine TE.step (by simp only [zK]; rfl) rfl ?_
 (refine eff_store (X := ?X18) (Y := ?Y18) (w' := ?w18) (by simp only [zK]; rfl) (by rfl) rfl ?hx18 ?hz18 ?y18 ?n18; (case hx18 => simp only [zM]; try rfl); (case hz18 => simp only [zM]; try rfl); (case y18 => go_simp; try with_reducible rfl))
 (first | refine TE.nil_set kp (fun wn kp mS => ?_) | refine TE.nil_setCell kp (fun wn kp mS => ?_))
 (try simp only [Array.setIfInBounds, zL] at kp)
 have HLY := Lib.hid (HFN.out _ mS kp)
 clear mS HFN
 go_wp2_with fail
 go_end0
 refine ⟨rfl, _, ?_, HS.out.2.2.trans (LyC.pre HMP.out HLY.out.2)⟩
 have : B ++ lisP l = B ++ shP n ++ l := by rw [lisP, HN.out, List.append_assoc]
 rw [this]
 exact HLY.out.1
structure LyS (w0 : World) (p p1 b : Nat) (v : Value) (B : List UInt8) (M : Obj) (w : World) : Prop where
 g : LyG p b v B w
 m : Mod (fun _ => False) w0 w
 k1 : w.heap[p1]? = some M
 lt : w0.heap.size ≤ p1 ∧ p1 < p ∧ b ≤ w.heap.size
theorem LyS.step {w0 w w' : World} {p p1 b : Nat} {v v' : Value} {B B' : List UInt8} {M : Obj} (h : LyS w0 p p1 b v B M w) (hG : LyG p b v' B' w') (hC : LyC p v v' w w') : LyS w0 p p1 b v' B' M w' :=
 ⟨hG, LyM h.m h.g hC (by have := h.lt; omega), (hC.at h.k1 (by have := h.lt; omega) (fun e => by have := (h.g.2.1.lt p1 e).1; have := h.g.2.2; have := h.lt; omega)).1, h.lt.1, h.lt.2.1, Nat.le_trans h.lt.2.2 hC.1.size⟩
theorem LyS.mod0 {w0 w w' : World} {p p1 b : Nat} {v : Value} {B : List UInt8} {M : Obj} (h : LyS w0 p p1 b v B M w) (hm : Mod (fun _ => False) w w') : LyS w0 p p1 b v B M w' :=
 ⟨h.g.mod0 hm, h.m.then0 hm, hm.at h.k1 (fun e => e), h.lt.1, h.lt.2.1, Nat.le_trans h.lt.2.2 hm.size⟩
theorem LyS.app {w0 w : World} {p p1 b : Nat} {v : Value} {B q : List UInt8} {M : Obj} {a : Option Addr} (n c : Nat) (h : LyS w0 p p1 b v B M w) (hq : SlAt uc 1 w a q) (hn : q.length = n) (hl : B.length + q.length ≤ 1000000) (ty : TypeId) :
  ∃ v' w', (∃ a' m' c', v' = .slice a' m' c') ∧ (Builtin.append_ #[170, 170] ty #[v, .slice a n c]).run Tryz.prog w = .ok v' w' ∧ (Builtin.append_ #[170, 22] ty #[v, .slice a n c]).run Tryz.prog w = .ok v' w' ∧ w'.heap[p]? = some (.cells #[v] 170 (0, 0)) ∧
   (∀ w2, Mod (fun i => i = p) w' w2 → w2.heap[p]? = some (.cells #[v'] 170 (0, 0)) → LyS w0 p p1 b v' (B ++ q) M w2 ∧ LyC p v v' w w2) := by
 subst hn
 obtain ⟨v', w', h1, h2, h3, h4, _, h5⟩ := ly_app (c := c) h.g hq hl h.lt.2.2 ty
 exact ⟨v', w', h1, h2, h3, h4, fun w2 m2 k2 => ⟨h.step (h5 w2 m2 k2).1 (h5 w2 m2 k2).2, (h5 w2 m2 k2).2⟩⟩
theorem bytes_at {w : World} {g o : Nat} {C : Array Value} {U : TypeId} {fr : Nat × Nat} {l : List UInt8} (hk : w.heap[g]? = some (.cells C U fr)) (h : C.extract o (o + l.length) = (l.map bc).toArray) : SlAt uc 1 w (some ⟨g, o, none⟩) l := by
 refine .inr ⟨g, o, C, U, fr, rfl, hk, fun i x hx => ?_⟩
 obtain ⟨hi, hxe⟩ := List.getElem?_eq_some_iff.1 hx
 have h1 : (C.extract o (o + l.length))[i]? = some (bc x) := by rw [h]; simp [hx]
 have h2 : C[o + i]? = some (bc x) := by
  rw [Array.getElem?_extract] at h1
  split at h1
  ·exact h1
  ·cases h1
 obtain ⟨h3, h4⟩ := Array.getElem?_eq_some_iff.1 h2
 refine ⟨?_, by omega⟩
 rw [Nat.mul_one]
 apply Array.ext
 ·simp [uc]
  omega
 ·intro j hj1 hj2
  have : j = 0 := by simp [uc] at hj2; exact hj2
  subst this
  simp [uc, h4, bc]
theorem key_bytes {w : World} {g o : Nat} {C : Array Value} {U : TypeId} {fr : Nat × Nat} {k : Key} (hk : w.heap[g]? = some (.cells C U fr)) (h : C.extract o (o + 32) = kc k) : SlAt uc 1 w (some ⟨g, o, none⟩) k.l := bytes_at hk (by rw [k.h]; exact h)
theorem skey (p o : Nat) (w : World) : (Instr.sliceAt 82 (.pointer (some ⟨p, o, none⟩)) none none none).run Tryz.prog w = .ok (.slice (some ⟨p, o, none⟩) 32 32) w := by kernel_rfl
theorem shash (p o : Nat) (w : World) : (Instr.sliceAt 29 (.pointer (some ⟨p, o, none⟩)) none none none).run Tryz.prog w = .ok (.slice (some ⟨p, o, none⟩) 32 32) w := by kernel_rfl
theorem bL1 (x : UInt8) (w : World) : (Instr.buildSlice 170 1 #[(0, u8v x)]).run Tryz.prog w = .ok (.slice (some ⟨w.heap.size, 0, none⟩) 1 1) (w.alloc (.cells #[u8v x] 5)) := by kernel_rfl
theorem bL3 (x y z : UInt8) (w : World) : (Instr.buildSlice 170 3 #[(0, u8v x), (1, u8v y), (2, u8v z)]).run Tryz.prog w = .ok (.slice (some ⟨w.heap.size, 0, none⟩) 3 3) (w.alloc (.cells #[u8v x, u8v y, u8v z] 5)) := by kernel_rfl
theorem alLay (w : World) : (Instr.alloc 170 true (.tuple #[])).run Tryz.prog w = .ok (.pointer (some ⟨w.heap.size, 0, none⟩)) (w.alloc (.cells #[.slice none 0 0] 170)) := by kernel_rfl
theorem clipLay_c (v2 : Value) (w : World) (n : Nat) {a : Option Addr} {c : Nat} (h : ∀ w2, (Instr.sliceAt 170 (.slice a n c) none (some (.int .i64 (n : Int))) (some (.int .i64 (n : Int)))).run Tryz.prog w2 = .ok v2 w2) :
  Calls Tryz.prog 108 #[.slice a n c] w fun e w' => e = .returned v2 ∧ w' = w := by
 go_enter Tryz.func108, Tryz.ntmps108
 go_wp2_with fail
 go_ret
 exact ⟨rfl, rfl⟩
theorem clip_newL {l : List UInt8} {b : Nat} {v : Value} {w : World} (h : SlOwn uc 1 5 w b v l) : ∃ a c, v = .slice a l.length c ∧ (∀ w2, (Instr.sliceAt 170 (.slice a l.length c) none (some (.int .i64 (l.length : Int))) (some (.int .i64 (l.length : Int)))).run Tryz.prog w2 = .ok (.slice a l.length l.length) w2) ∧ NewS uc 1 5 b w (.slice a l.length l.length) l := by
 obtain ⟨a, c, e, h1, h2, h3, h4⟩ := clip_own layT h
 obtain ⟨a', c', v2, e', h1', h2'⟩ := h.clip layT
 have hv : v2 = .slice a l.length l.length := by
  have e1 := h1 w
  rw [h1' w] at e1
  injection e1 with e1 _
 subst hv
 subst e
 exact ⟨a, c, rfl, h1, h2'⟩
theorem fm_snoc {α : Type} {f : α → List UInt8} {l : List α} {i : Nat} {x : α} (h : l[i]? = some x) : (l.take (i + 1)).flatMap f = (l.take i).flatMap f ++ f x := by
 rw [List.take_add_one, h]
 simp
theorem fm_le {α : Type} (f : α → List UInt8) (l : List α) (i : Nat) : ((l.take i).flatMap f).length ≤ (l.flatMap f).length := by
 conv => rhs; rw [← List.take_append_drop i l, List.flatMap_append, List.length_append]
 omega
theorem shP_le (n : Nat) : (shP n).length ≤ 3 := by
 unfold shP
 split
 ·simp
 ·split <;> simp
end Go.Proofs.YtiaehkkkcaeaiaaGreatDoor
namespace Go.Proofs.YtiaehkkkcaeaiaaGreatDoor
open Go.RowKit
open Go.ChangeMaps (setBlock)
attribute [local go_sem ↓] wlKey ldKey stKey ldSg stSg wlTc ldTc stTc eqKey1
attribute [local go_sem] cell_blk frozen_blk kc_ext one_int one_bool one_ptr one_slice one_map kc_one kc_one0 kc_size zKey_size sgc_size sgc_ext sgc_one0 sgc_one' txr_size txr_all txr_one txr_one' txr0 txr38 txr39 txr0' txr38' txr39' zTx_size Value.cells
attribute [local go_sem ↓] wlMsg ldMsg stMsg wlIn ldIn stIn wlLo ldLo stLo
attribute [local go_sem] mgx_size mgx_ext mgx_one mgx_one0 mg0 mg1 mg2 mg3 mg4 mg37 mg38 mg37' mg38' mgx_hd mgx_hs mg0' mg4'
attribute [local go_sem] mg1B' mg2B' mg3B' inr1B inr1B' inr2B inr2B' inr0B inr0B' inrB_size inrB_all inrB_one zIn_size lor32 lor33 lor32' lor33' lor_sz lor_al0 zLoM_size
theorem lis_le (l : List UInt8) (h : l.length ≤ 65535) : (lisP l).length ≤ 65538 := by
 have := shP_le l.length
 rw [lisP, List.length_append]
 omega
theorem three_at {w : World} {p : Nat} {x y z : UInt8} {U : TypeId} {fr : Nat × Nat} (h : w.heap[p]? = some (.cells #[u8v x, u8v y, u8v z] U fr)) : SlAt uc 1 w (some ⟨p, 0, none⟩) [x, y, z] := bytes_at h rfl
set_option maxRecDepth 20000 in
set_option maxHeartbeats 6400000 in
theorem mput_c (x : RdR) (w : World) (hR : MsgRd w x) (hB : MsB (msgP x)) (hv : x.v0 = true ∨ (x.lks.l.length = 0 ∧ x.h0.toNat < 128)) (ht : (putM (msgP x)).length ≤ 200000) :
  Calls Tryz.prog 65 #[.agg (msr x)] w fun e w' => ∃ a, e = .returned (.tuple #[.slice a (putM (msgP x)).length (putM (msgP x)).length, .int .i64 0]) ∧ NewS uc 1 5 w.heap.size w' (.slice a (putM (msgP x)).length (putM (msgP x)).length) (putM (msgP x)) ∧ Mod (fun _ => False) w w' := by
 have HX := Lib.hid hR
 have HMY := Lib.hid (fun w1 (hm : Mod (fun _ => False) w w1) => may_c x w1 (hR.mod0 hm) hB hv)
 have hB1 := hB.1
 have hB2 := hB.2.1.1
 have hB3 := hB.2.2.1
 have HBI : Hid (∀ y ∈ x.ins.l, y.a.l.length ≤ 65535 ∧ y.d.l.length ≤ 65535) := Lib.hid (fun y hy => hB.2.1.2 (inP y) (List.mem_map_of_mem hy))
 have HBL : Hid (∀ y ∈ x.lks.l, y.w.l.length ≤ 65535 ∧ y.r.l.length ≤ 65535) := Lib.hid (fun y hy => hB.2.2.2 (loP y) (List.mem_map_of_mem hy))
 simp only [msgP, List.length_map] at hB1 hB2 hB3
 have hms : msr x = mgx x.v0 x.h0 x.h1 x.h2 x.ks.a x.ks.l.length x.ks.c x.rc x.ins.a x.ins.l.length x.ins.c x.lks.a x.lks.l.length x.lks.c := rfl
 rw [hms] at HMY ⊢
 have hput : putM (msgP x) = (if x.v0 then [128] else []) ++ (x.h0 :: x.h1 :: x.h2 :: (shP x.ks.l.length ++ (x.ks.l.flatMap (·.l) ++ (x.rc.l ++ (shP x.ins.l.length ++ (x.ins.l.flatMap (fun y => putI (inP y)) ++ (if x.v0 then shP x.lks.l.length ++ x.lks.l.flatMap (fun y => putLk (loP y)) else []))))))) := by
  unfold putM
  simp only [msgP, List.length_map, List.flatMap_map]
  rfl
 obtain ⟨n1, hn1⟩ : ∃ n, x.ks.l.length = n := ⟨_, rfl⟩
 obtain ⟨n2, hn2⟩ : ∃ n, x.ins.l.length = n := ⟨_, rfl⟩
 obtain ⟨n3, hn3⟩ : ∃ n, x.lks.l.length = n := ⟨_, rfl⟩
 obtain ⟨v0, hv0⟩ : ∃ v, x.v0 = v := ⟨_, rfl⟩
 rw [hn1, hn2, hn3, hv0] at HMY ⊢
 rw [hn1, hn2, hn3, hv0] at hput
 rw [hn1] at hB1
 rw [hn2] at hB2
 rw [hn3] at hB3
 have HPUT := Lib.hid hput
 have HLEN : Hid ((x.ks.l.flatMap (·.l)).length ≤ 200000 ∧ (x.ins.l.flatMap (fun y => putI (inP y))).length ≤ 200000 ∧ (v0 = true → (x.lks.l.flatMap (fun y => putLk (loP y))).length ≤ 200000)) := Lib.hid (by
  rw [hput] at ht
  simp only [List.length_append, List.length_cons] at ht
  refine ⟨by omega, by omega, fun h => ?_⟩
  rw [h] at ht
  simp only [if_true, List.length_append] at ht
  omega)
 obtain ⟨PM, hPM⟩ : ∃ PM, putM (msgP x) = PM := ⟨_, rfl⟩
 rw [hPM] at HPUT ⊢
 have HN := Lib.hid (And.intro hn1 (And.intro hn2 hn3))
 clear hR hB hv hn1 hn2 hn3 hv0 hput ht hPM hms
 go_enter Tryz.func65, Tryz.ntmps65
 go_upto_region 0 with fail
 refine wp_pass0 (C := fun _ _ _ => False) (κ := fun i => [3, 0, 0].getD i 0) [0, 1, 2] (by kernel_rfl) (by kernel_rfl) (fun _ _ d _ _ h => by cases d <;> first | exact h | exact absurd h (hP _ _ _)) ?_
 (refine TD.box (v := ?v1) (by simp only [zK]; rfl) rfl (by rfl) rfl rfl ?hx1 (fun p1 hp1 => ?n1); (case hx1 => simp only [zM]; try rfl); try simp only [zL])
 iterate 2 (refine TD.val0 (v := ?_) (by simp only [zK]; rfl) rfl (by rfl) (fun w1 => ?_) ?_; rotate_left; (next => go_simp; try with_reducible rfl); try simp only [zL])
 refine TD.nil (fun w1 hr => ?_)
 have kp1 := hr.box p1 _ (by first | exact Bx.set_same _ _ _ | (simp only [Bx.set_same]; rfl)); dsimp only [Value.cells] at kp1; obtain ⟨gp1, kp1⟩ := kp1
 have HM1 := Lib.hid hr.mod
 have HG1 := Lib.hid gp1
 clear hr
 go_upto_region 1 with fail
 have Lkp1 := lt_size kp1
 refine wp_pass0 (C := fun _ _ v => v = .bool true) (κ := fun i => [1, 2, 0].getD i 0) [0, 1, 2] (by kernel_rfl) (by kernel_rfl) (fun _ _ d _ _ h => by cases d <;> first | exact h | exact absurd h (hP _ _ _)) ?_
 (refine TD.load (v := ?_) (p := ?_) (Mod.refl _ _) (by simp only [zK]; rfl) rfl (by rfl) rfl ?_ (fun wq hSq => ?_) ?_; rotate_left 2; (next => simp only [zM]; try rfl); (next => have kp1q := hSq.at kp1 (fun h => h); go_simp; try with_reducible rfl); try simp only [zL])
 (refine TD.call (f := ?f5) (args := ?r5) (Mod.refl _ _) (by simp only [zK]; rfl) rfl (by rfl) (fun w1 => ?y5) ?hsp5 ?n5; (case y5 => (go_simp; (first | with_reducible rfl | (constructor <;> with_reducible rfl)))); (case hsp5 => (intro wq hSq; have kp1q := hSq.at kp1 (fun h => h); exact (HMY.out wq (HM1.out.then0 hSq)).mono (fun e w' h => ⟨_, h.1, rfl, h.2⟩))); rintro _ hC; subst hC; try simp only [zL])
 (refine TD.val0 (v := ?_) (by simp only [zK]; rfl) rfl (by rfl) (fun w1 => ?_) ?_; rotate_left; (next => go_simp; try with_reducible rfl); try simp only [zL])
 refine TD.nil (fun w2 hr => ?_)
 replace kp1 := hr.mod.at kp1 (fun h => h)
 have HM2 := Lib.hid (HM1.out.then0 hr.mod)
 clear hr
 go_upto_region 3 with fail
 have Lkp1 := lt_size kp1
 refine wp_pass0 (C := fun _ _ _ => False) (κ := fun i => [3].getD i 0) [0] (by kernel_rfl) (by kernel_rfl) (fun _ _ d _ _ h => by cases d <;> first | exact h | exact absurd h (hP _ _ _)) ?_
 (refine TD.allocB (by simp only [zK]; rfl) rfl (by rfl) rfl rfl alLay (fun p4 hp4 => ?n7); try simp only [zL])
 refine TD.nil (fun w3 hr => ?_)
 replace kp1 := hr.mod.at kp1 (fun h => h)
 have kp4 := hr.box p4 _ (by first | exact Bx.set_same _ _ _ | (simp only [Bx.set_same]; rfl)); dsimp only [Value.cells] at kp4; obtain ⟨gp4, kp4⟩ := kp4
 have HS : Hid (LyS w p4 p1 (p4 + 1) (.slice none 0 0) [] (.cells (mgx v0 x.h0 x.h1 x.h2 x.ks.a n1 x.ks.c x.rc x.ins.a n2 x.ins.c x.lks.a n3 x.lks.c) 33 (0, 0)) w3) := Lib.hid ⟨⟨kp4, SlOwn.nil _ _, by omega⟩, HM2.out.then0 hr.mod, kp1, HG1.out, by omega, by have := lt_size kp4; omega⟩
 clear hr kp1 kp4 gp4
 have hb128 : ∀ w, (Instr.buildSlice 170 1 #[(0, .int .u8 128)]).run Tryz.prog w = .ok (.slice (some ⟨w.heap.size, 0, none⟩) 1 1) (w.alloc (.cells #[u8v 128] 5)) := fun w => by kernel_rfl
 have hbh := bL3 x.h0 x.h1 x.h2
 cases v0 with
 | true =>
  have kp1 := HS.out.k1
  go_upto_region 4 with fail
  have Lkp1 := lt_size kp1
  refine wp_pass0 (C := fun _ _ _ => False) (κ := fun i => [0, 1].getD i 0) [0, 1] (by kernel_rfl) (by kernel_rfl) (fun _ _ d _ _ h => by cases d <;> first | exact h | exact absurd h (hP _ _ _)) ?_
  (refine TD.val0 (v := ?_) (by simp only [zK]; rfl) rfl (by rfl) (fun w1 => ?_) ?_; rotate_left; (next => go_simp; try with_reducible rfl); try simp only [zL])
  (refine TD.load (v := ?_) (p := ?_) (Mod.refl _ _) (by simp only [zK]; rfl) rfl (by rfl) rfl ?_ (fun wq hSq => ?_) ?_; rotate_left 2; (next => simp only [zM]; try rfl); (next => have kp1q := hSq.at kp1 (fun h => h); go_simp; try with_reducible rfl); try simp only [zL])
  refine TD.nil (fun w4 hr => ?_)
  replace kp1 := hr.mod.at kp1 (fun h => h)
  have HS := Lib.hid (HS.out.mod0 hr.mod)
  clear hr kp1
  have kp4 := HS.out.g.1
  have kp1 := HS.out.k1
  go_upto_region 5 with fail
  have Lkp1 := lt_size kp1
  have Lkp4 := lt_size kp4
  refine wp_pass0 (C := fun _ _ _ => False) (κ := fun i => [1, 3, 5, 6].getD i 0) [0, 1, 2, 3] (by kernel_rfl) (by kernel_rfl) (fun _ _ d _ _ h => by cases d <;> first | exact h | exact absurd h (hP _ _ _)) ?_
  (refine TD.load (v := ?_) (p := ?_) (Mod.refl _ _) (by simp only [zK]; rfl) rfl (by rfl) rfl ?_ (fun wq hSq => ?_) ?_; rotate_left 2; (next => simp only [zM]; try rfl); (next => have kp1q := hSq.at kp1 (fun h => h); have kp4q := hSq.at kp4 (fun h => h); go_simp; try with_reducible rfl); try simp only [zL])
  (refine TD.bslice (by simp only [zK]; rfl) rfl (by rfl) rfl rfl ?hx11 hb128 (fun p17 hp17 => ?n11); (case hx11 => (simp only [List.map_toArray, List.map_cons, List.map_nil, zM]; (try rfl))); try simp only [zL])
  refine TD.eff (by simp only [zK]; rfl) rfl (fun wp hr => ?_)
  replace kp1 := hr.mod.at kp1 (fun h => h)
  replace kp4 := hr.mod.at kp4 (fun h => h)
  have kp17 := hr.box p17 _ (by first | exact Bx.set_same _ _ _ | (simp only [Bx.set_same]; rfl)); dsimp only [Value.cells] at kp17; obtain ⟨gp17, kp17⟩ := kp17
  have HMP := Lib.hid hr.mod
  obtain ⟨v2, wx, ⟨a2, q2, c2, rfl⟩, hap1, hap, k2, hfin⟩ := LyS.app 1 1 (HS.out.mod0 hr.mod) (SlAt.one kp17 (128 : UInt8) rfl rfl) rfl (by simp) 170
  have HFN := Lib.hid hfin
  clear hr hfin kp4 kp1
  have kp4 := k2
  clear k2
  (refine eff_append (by simp only [zK]; rfl) (by rfl) rfl ?hx13 ?hz13 hap1 ?n13; (case hx13 => simp only [zM]; try rfl); (case hz13 => simp only [zM]; try rfl); try simp only [zL])
  refine TE.step (by simp only [zK]; rfl) rfl ?_
  (refine eff_store (X := ?X14) (Y := ?Y14) (w' := ?w14) (by simp only [zK]; rfl) (by rfl) rfl ?hx14 ?hz14 ?y14 ?n14; (case hx14 => simp only [zM]; try rfl); (case hz14 => simp only [zM]; try rfl); (case y14 => go_simp; try with_reducible rfl))
  (first | refine TE.nil_set kp4 (fun wn kp4 mS => ?_) | refine TE.nil_setCell kp4 (fun wn kp4 mS => ?_))
  (try simp only [Array.setIfInBounds, zL] at kp4)
  have HLY := Lib.hid (HFN.out _ mS kp4)
  have HS := Lib.hid HLY.out.1
  clear mS HFN kp4 hap1 hap
  obtain ⟨wy, rfl⟩ : ∃ wy : World, wy = wn := ⟨_, rfl⟩
  have kp4 := HS.out.g.1
  have kp1 := HS.out.k1
  go_upto_region 6 with fail
  have Lkp1 := lt_size kp1
  have Lkp4 := lt_size kp4
  refine wp_pass0 (C := fun _ _ _ => False) (κ := fun i => [1, 0, 0, 1, 0, 0, 1, 0, 0, 1, 3, 5, 6].getD i 0) [0, 1, 2, 3, 4, 5, 6, 7, 8, 9, 10, 11, 12] (by kernel_rfl) (by kernel_rfl) (fun _ _ d _ _ h => by cases d <;> first | exact h | exact absurd h (hP _ _ _)) ?_
  iterate 10 first | (refine TD.load (v := ?_) (p := ?_) (Mod.refl _ _) (by simp only [zK]; rfl) rfl (by rfl) rfl ?_ (fun wq hSq => ?_) ?_; rotate_left 2; (next => simp only [zM]; try rfl); (next => have kp1q := hSq.at kp1 (fun h => h); have kp4q := hSq.at kp4 (fun h => h); go_simp; try with_reducible rfl); try simp only [zL]) | (refine TD.val0 (v := ?_) (by simp only [zK]; rfl) rfl (by rfl) (fun w1 => ?_) ?_; rotate_left; (next => go_simp; try with_reducible rfl); try simp only [zL])
  (refine TD.bslice (by simp only [zK]; rfl) rfl (by rfl) rfl rfl ?hx25 hbh (fun p29 hp29 => ?n25); (case hx25 => (simp only [List.map_toArray, List.map_cons, List.map_nil, zM]; (try rfl))); try simp only [zL])
  refine TD.eff (by simp only [zK]; rfl) rfl (fun wp hr => ?_)
  replace kp1 := hr.mod.at kp1 (fun h => h)
  replace kp4 := hr.mod.at kp4 (fun h => h)
  have kp29 := hr.box p29 _ (by first | exact Bx.set_same _ _ _ | (simp only [Bx.set_same]; rfl)); dsimp only [Value.cells] at kp29; obtain ⟨gp29, kp29⟩ := kp29
  have HMP := Lib.hid hr.mod
  obtain ⟨v2, wx, ⟨a2, q2, c2, rfl⟩, hap1, hap, k2, hfin⟩ := LyS.app 3 3 (HS.out.mod0 hr.mod) (three_at kp29) rfl (by simp) 170
  have HFN := Lib.hid hfin
  clear hr hfin kp4 kp1
  have kp4 := k2
  clear k2
  (refine eff_append (by simp only [zK]; rfl) (by rfl) rfl ?hx27 ?hz27 hap1 ?n27; (case hx27 => simp only [zM]; try rfl); (case hz27 => simp only [zM]; try rfl); try simp only [zL])
  refine TE.step (by simp only [zK]; rfl) rfl ?_
  (refine eff_store (X := ?X28) (Y := ?Y28) (w' := ?w28) (by simp only [zK]; rfl) (by rfl) rfl ?hx28 ?hz28 ?y28 ?n28; (case hx28 => simp only [zM]; try rfl); (case hz28 => simp only [zM]; try rfl); (case y28 => go_simp; try with_reducible rfl))
  (first | refine TE.nil_set kp4 (fun wn kp4 mS => ?_) | refine TE.nil_setCell kp4 (fun wn kp4 mS => ?_))
  (try simp only [Array.setIfInBounds, zL] at kp4)
  have HLY := Lib.hid (HFN.out _ mS kp4)
  have HS := Lib.hid HLY.out.1
  clear mS HFN kp4 hap1 hap
  obtain ⟨wy, rfl⟩ : ∃ wy : World, wy = wn := ⟨_, rfl⟩
  have kp4 := HS.out.g.1
  have kp1 := HS.out.k1
  go_upto_region 7 with fail
  go_wp2_with fail
  go_at_call 106
  refine (many_c n1 (by omega) _ HS.out.g (by simp) HS.out.lt.2.2).mono ?_
  rintro e wm ⟨rfl, v3, hG3, hC3⟩
  have HS := Lib.hid (HS.out.step hG3 hC3)
  clear hG3 hC3 kp4 kp1
  obtain ⟨P1, hP1⟩ : ∃ P, P = ([] ++ [128] ++ [x.h0, x.h1, x.h2]) ++ shP n1 := ⟨_, rfl⟩
  rw [← hP1] at HS
  have HP1 : Hid (P1.length ≤ 30) := Lib.hid (by rw [hP1]; have := shP_le n1; simp; omega)
  have HE1 := Lib.hid hP1
  clear hP1
  have kp1 := HS.out.k1
  go_upto_region 8 with fail
  have Lkp1 := lt_size kp1
  refine wp_pass0 (C := fun _ _ _ => False) (κ := fun i => [0, 1, 0, 0].getD i 0) [0, 1, 2, 3] (by kernel_rfl) (by kernel_rfl) (fun _ _ d _ _ h => by cases d <;> first | exact h | exact absurd h (hP _ _ _)) ?_
  iterate 4 first | (refine TD.val0 (v := ?_) (by simp only [zK]; rfl) rfl (by rfl) (fun w1 => ?_) ?_; rotate_left; (next => go_simp; try with_reducible rfl); try simp only [zL]) | (refine TD.load (v := ?_) (p := ?_) (Mod.refl _ _) (by simp only [zK]; rfl) rfl (by rfl) rfl ?_ (fun wq hSq => ?_) ?_; rotate_left 2; (next => simp only [zM]; try rfl); (next => have kp1q := hSq.at kp1 (fun h => h); go_simp; try with_reducible rfl); try simp only [zL])
  refine TD.nil (fun w8 hr => ?_)
  replace kp1 := hr.mod.at kp1 (fun h => h)
  have HS := Lib.hid (HS.out.mod0 hr.mod)
  clear hr kp1
  go_wp2_with fail
  go_loopw [38] (fun s38 ws => ∃ (i : Nat) (v : Value), i ≤ n1 ∧ s38 = .int .i64 (i : Int) ∧ Hid (LyS w p4 p1 (p4 + 1) v (P1 ++ (x.ks.l.take i).flatMap (·.l)) (.cells (mgx true x.h0 x.h1 x.h2 x.ks.a n1 x.ks.c x.rc x.ins.a n2 x.ins.c x.lks.a n3 x.lks.c) 33 (0, 0)) ws)) (fun s38 _ => n1 - (intOf s38).toNat)
  case atStart => exact ⟨0, _, Nat.zero_le _, rfl, by simpa using HS⟩
  case round =>
   obtain ⟨i, v, hi, rfl, HS⟩ := hrel
   by_cases hlt : i < n1
   ·have hd := decide_eq_true hlt
    obtain ⟨y, hy⟩ : ∃ y, x.ks.l[i]? = some y := ⟨_, List.getElem?_eq_getElem (by have := HN.out; omega)⟩
    obtain ⟨g, o, C, U, fr, hga, kg, he, hle⟩ := (HX.out.1.1.mod0 HS.out.m).block hy
    have HY := Lib.hid hy
    have kp1 := HS.out.k1
    clear hy
    go_upto_region 10 with fail
    have Lkp1 := lt_size kp1
    have Lkg := lt_size kg
    refine wp_pass0 (C := fun _ _ _ => False) (κ := fun i => [0, 1, 3, 4].getD i 0) [0, 1, 2, 3] (by kernel_rfl) (by kernel_rfl) (fun _ _ d _ _ h => by cases d <;> first | exact h | exact absurd h (hP _ _ _)) ?_
    (refine TD.val0 (v := ?_) (by simp only [zK]; rfl) rfl (by rfl) (fun w1 => ?_) ?_; rotate_left; (next => go_simp; try with_reducible rfl); try simp only [zL])
    (refine TD.load (v := ?_) (p := ?_) (Mod.refl _ _) (by simp only [zK]; rfl) rfl (by rfl) rfl ?_ (fun wq hSq => ?_) ?_; rotate_left 2; (next => simp only [zM]; try rfl); (next => have kp1q := hSq.at kp1 (fun h => h); have kgq := hSq.at kg (fun h => h); go_simp; try with_reducible rfl); try simp only [zL])
    (refine TD.allocB (by simp only [zK]; rfl) rfl (by rfl) rfl rfl alKey (fun p6 hp6 => ?n35); try simp only [zL])
    (refine TD.storeB (d := ?d36) (T := ?T36) (y := ?y36) (p := ?p36) (b := ?b36) (v := ?v36) (by simp only [zK]; rfl) rfl (by rfl) ?hd36 ?hop36 ?hev36 ?hx36 ?hb36 ?htag36 (fun w1 hb1 => ?hy36) ?hn36; (case hd36 => rfl); (case hop36 => rfl); (case hev36 => (simp only [zM]; (try rfl))); (case hx36 => simp only [zM]; try rfl); (case hb36 => first | exact Bx.set_same _ _ _ | (simp only [Bx.set_same]; rfl)); (case hy36 => (go_simp; (try first | with_reducible rfl | (rw [setCell_blk hb1]; rfl)))); try simp only [zL])
    refine TD.nil (fun w9 hr => ?_)
    replace kp1 := hr.mod.at kp1 (fun h => h)
    replace kg := hr.mod.at kg (fun h => h)
    have kp6 := hr.box p6 _ (by first | exact Bx.set_same _ _ _ | (simp only [Bx.set_same]; rfl)); dsimp only [Value.cells] at kp6; obtain ⟨gp6, kp6⟩ := kp6
    have HS := Lib.hid (HS.out.mod0 hr.mod)
    clear hr he hle kg hga kp1
    have hsk := skey p6 0
    have kp4 := HS.out.g.1
    have kp1 := HS.out.k1
    go_upto_region 11 with fail
    have Lkp4 := lt_size kp4
    have Lkp6 := lt_size kp6
    refine wp_pass (C := fun _ _ _ => False) (κ := fun i => [1, 0, 5, 6].getD i 0) [0, 1, 2, 3] (by kernel_rfl) (by kernel_rfl) (fun _ _ d _ _ h => by cases d <;> first | exact h | exact absurd h (hP _ _ _)) ?_
    (refine TD.load (v := ?_) (p := ?_) (Mod.refl _ _) (by simp only [zK]; rfl) rfl (by rfl) rfl ?_ (fun wq hSq => ?_) ?_; rotate_left 2; (next => simp only [zM]; try rfl); (next => have kp4q := hSq.at kp4 (fun h => h); have kp6q := hSq.at kp6 (fun h => h); go_simp; try with_reducible rfl); try simp only [zL])
    (refine TD.slice (by simp only [zK]; rfl) rfl (by rfl) rfl ?hs38 ?hl38 ?hh38 ?hm38 hsk ?n38; (case hs38 => simp only [zM]; try rfl); (case hl38 => first | rfl | (simp only [Option.map_some, zM]; (try rfl))); (case hh38 => first | rfl | (simp only [Option.map_some, zM]; (try rfl))); (case hm38 => rfl); try simp only [zL])
    refine TD.eff (by simp only [zK]; rfl) rfl (fun wp hr => ?_)
    replace kp4 := hr.mod.at kp4 (fun h => h)
    replace kp6 := hr.mod.at kp6 (fun h => h)
    have HMP := Lib.hid hr.mod
    obtain ⟨v2, wx, ⟨a2, q2, c2, rfl⟩, hap1, hap, k2, hfin⟩ := LyS.app 32 32 (HS.out.mod0 hr.mod) (key_bytes kp6 (kc_ext y)) y.h (by have := fm_le (fun k : Key => k.l) x.ks.l i; have := HLEN.out.1; have := HP1.out; have := y.h; simp only [List.length_append]; omega) 170
    have HFN := Lib.hid hfin
    clear hr hfin kp4 kp1
    have kp4 := k2
    clear k2
    (refine eff_append2 (by simp only [zK]; rfl) (by rfl) rfl ?hx40 ?hz40 hap ?n40; (case hx40 => simp only [zM]; try rfl); (case hz40 => simp only [zM]; try rfl); try simp only [zL])
    refine TE.step (by simp only [zK]; rfl) rfl ?_
    (refine eff_store (X := ?X41) (Y := ?Y41) (w' := ?w41) (by simp only [zK]; rfl) (by rfl) rfl ?hx41 ?hz41 ?y41 ?n41; (case hx41 => simp only [zM]; try rfl); (case hz41 => simp only [zM]; try rfl); (case y41 => go_simp; try with_reducible rfl))
    (first | refine TE.nil_set kp4 (fun wn kp4 mS => ?_) | refine TE.nil_setCell kp4 (fun wn kp4 mS => ?_))
    (try simp only [Array.setIfInBounds, zL] at kp4)
    have HLY := Lib.hid (HFN.out _ mS kp4)
    have HS := Lib.hid HLY.out.1
    clear mS HFN kp4 hap1 hap
    obtain ⟨wy, rfl⟩ : ∃ wy : World, wy = wn := ⟨_, rfl⟩
    have HS := Lib.hid (show LyS w p4 p1 (p4 + 1) (.slice a2 q2 c2) (P1 ++ (x.ks.l.take (i + 1)).flatMap (·.l)) _ wy by rw [fm_snoc HY.out, ← List.append_assoc]; exact HS.out)
    go_wp2_with fail
    go_roundw
    case rel => exact ⟨i + 1, _, by omega, by go_num, HS⟩
    case measure => simp [intOf]; omega
   ·have hd := decide_eq_false hlt
    obtain rfl : n1 = i := by omega
    rw [show x.ks.l.take n1 = x.ks.l from List.take_of_length_le (by have := HN.out; omega)] at HS
    clear hi hlt
    have hsh := shash p1 5
    have kp4 := HS.out.g.1
    have kp1 := HS.out.k1
    go_upto_region 13 with fail
    have Lkp4 := lt_size kp4
    have Lkp1 := lt_size kp1
    refine wp_pass (C := fun _ _ _ => False) (κ := fun i => [1, 0, 0, 5, 6].getD i 0) [0, 1, 2, 3, 4] (by kernel_rfl) (by kernel_rfl) (fun _ _ d _ _ h => by cases d <;> first | exact h | exact absurd h (hP _ _ _)) ?_
    (refine TD.load (v := ?_) (p := ?_) (Mod.refl _ _) (by simp only [zK]; rfl) rfl (by rfl) rfl ?_ (fun wq hSq => ?_) ?_; rotate_left 2; (next => simp only [zM]; try rfl); (next => have kp4q := hSq.at kp4 (fun h => h); have kp1q := hSq.at kp1 (fun h => h); go_simp; try with_reducible rfl); try simp only [zL])
    (refine TD.val0 (v := ?_) (by simp only [zK]; rfl) rfl (by rfl) (fun w1 => ?_) ?_; rotate_left; (next => go_simp; try with_reducible rfl); try simp only [zL])
    (refine TD.slice (by simp only [zK]; rfl) rfl (by rfl) rfl ?hs44 ?hl44 ?hh44 ?hm44 hsh ?n44; (case hs44 => simp only [zM]; try rfl); (case hl44 => first | rfl | (simp only [Option.map_some, zM]; (try rfl))); (case hh44 => first | rfl | (simp only [Option.map_some, zM]; (try rfl))); (case hm44 => rfl); try simp only [zL])
    refine TD.eff (by simp only [zK]; rfl) rfl (fun wp hr => ?_)
    replace kp4 := hr.mod.at kp4 (fun h => h)
    replace kp1 := hr.mod.at kp1 (fun h => h)
    have HMP := Lib.hid hr.mod
    obtain ⟨v2, wx, ⟨a2, q2, c2, rfl⟩, hap1, hap, k2, hfin⟩ := LyS.app 32 32 (HS.out.mod0 hr.mod) (key_bytes kp1 (mgx_hs ..)) x.rc.h (by have := HLEN.out.1; have := HP1.out; have := x.rc.h; simp only [List.length_append]; omega) 170
    have HFN := Lib.hid hfin
    clear hr hfin kp4 kp1
    have kp4 := k2
    clear k2
    (refine eff_append2 (by simp only [zK]; rfl) (by rfl) rfl ?hx46 ?hz46 hap ?n46; (case hx46 => simp only [zM]; try rfl); (case hz46 => simp only [zM]; try rfl); try simp only [zL])
    refine TE.step (by simp only [zK]; rfl) rfl ?_
    (refine eff_store (X := ?X47) (Y := ?Y47) (w' := ?w47) (by simp only [zK]; rfl) (by rfl) rfl ?hx47 ?hz47 ?y47 ?n47; (case hx47 => simp only [zM]; try rfl); (case hz47 => simp only [zM]; try rfl); (case y47 => go_simp; try with_reducible rfl))
    (first | refine TE.nil_set kp4 (fun wn kp4 mS => ?_) | refine TE.nil_setCell kp4 (fun wn kp4 mS => ?_))
    (try simp only [Array.setIfInBounds, zL] at kp4)
    have HLY := Lib.hid (HFN.out _ mS kp4)
    have HS := Lib.hid HLY.out.1
    clear mS HFN kp4 hap1 hap
    obtain ⟨wy, rfl⟩ : ∃ wy : World, wy = wn := ⟨_, rfl⟩
    have kp4 := HS.out.g.1
    have kp1 := HS.out.k1
    go_upto_region 14 with fail
    go_wp2_with fail
    go_at_call 106
    refine (many_c n2 (by omega) _ HS.out.g (by have := HLEN.out.1; have := HP1.out; have := x.rc.h; simp only [List.length_append]; omega) HS.out.lt.2.2).mono ?_
    rintro e wm ⟨rfl, v3, hG3, hC3⟩
    have HS := Lib.hid (HS.out.step hG3 hC3)
    clear hG3 hC3 kp4 kp1
    obtain ⟨P2, hP2⟩ : ∃ P, P = ((P1 ++ x.ks.l.flatMap (·.l)) ++ x.rc.l) ++ shP n2 := ⟨_, rfl⟩
    rw [← hP2] at HS
    have HP2 : Hid (P2.length ≤ 200100) := Lib.hid (by rw [hP2]; have := shP_le n2; have := HLEN.out.1; have := HP1.out; have := x.rc.h; simp only [List.length_append]; omega)
    have HE2 := Lib.hid hP2
    clear hP2 hsh
    have kp1 := HS.out.k1
    go_upto_region 15 with fail
    have Lkp1 := lt_size kp1
    refine wp_pass0 (C := fun _ _ _ => False) (κ := fun i => [0, 1, 0, 0].getD i 0) [0, 1, 2, 3] (by kernel_rfl) (by kernel_rfl) (fun _ _ d _ _ h => by cases d <;> first | exact h | exact absurd h (hP _ _ _)) ?_
    iterate 4 first | (refine TD.val0 (v := ?_) (by simp only [zK]; rfl) rfl (by rfl) (fun w1 => ?_) ?_; rotate_left; (next => go_simp; try with_reducible rfl); try simp only [zL]) | (refine TD.load (v := ?_) (p := ?_) (Mod.refl _ _) (by simp only [zK]; rfl) rfl (by rfl) rfl ?_ (fun wq hSq => ?_) ?_; rotate_left 2; (next => simp only [zM]; try rfl); (next => have kp1q := hSq.at kp1 (fun h => h); go_simp; try with_reducible rfl); try simp only [zL])
    refine TD.nil (fun w10 hr => ?_)
    replace kp1 := hr.mod.at kp1 (fun h => h)
    have HS := Lib.hid (HS.out.mod0 hr.mod)
    clear hr kp1
    go_wp2_with fail
    go_loopw [57] (fun s57 ws => ∃ (i : Nat) (v : Value), i ≤ n2 ∧ s57 = .int .i64 (i : Int) ∧ Hid (LyS w p4 p1 (p4 + 1) v (P2 ++ (x.ins.l.take i).flatMap (fun y => putI (inP y))) (.cells (mgx true x.h0 x.h1 x.h2 x.ks.a n1 x.ks.c x.rc x.ins.a n2 x.ins.c x.lks.a n3 x.lks.c) 33 (0, 0)) ws)) (fun s57 _ => n2 - (intOf s57).toNat)
    case atStart => exact ⟨0, _, Nat.zero_le _, rfl, by simpa using HS⟩
    case round =>
     clear HS
     obtain ⟨i, v, hi, rfl, HS⟩ := hrel
     by_cases hlt : i < n2
     ·have hd := decide_eq_true hlt
      obtain ⟨y, hy⟩ : ∃ y, x.ins.l[i]? = some y := ⟨_, List.getElem?_eq_getElem (by have := HN.out; omega)⟩
      obtain ⟨g, o, C, U, fr, hga, kg, he, hle⟩ := (HX.out.2.1.1.mod0 HS.out.m).block hy
      have HY := Lib.hid (And.intro hy (And.intro (HX.out.2.1.2.2 y (List.mem_of_getElem? hy)) (HBI.out y (List.mem_of_getElem? hy))))
      have kp1 := HS.out.k1
      clear hy
      go_upto_region 17 with fail
      have Lkp1 := lt_size kp1
      have Lkg := lt_size kg
      refine wp_pass0 (C := fun _ _ _ => False) (κ := fun i => [0, 1, 3, 4].getD i 0) [0, 1, 2, 3] (by kernel_rfl) (by kernel_rfl) (fun _ _ d _ _ h => by cases d <;> first | exact h | exact absurd h (hP _ _ _)) ?_
      (refine TD.val0 (v := ?_) (by simp only [zK]; rfl) rfl (by rfl) (fun w1 => ?_) ?_; rotate_left; (next => go_simp; try with_reducible rfl); try simp only [zL])
      (refine TD.load (v := ?_) (p := ?_) (Mod.refl _ _) (by simp only [zK]; rfl) rfl (by rfl) rfl ?_ (fun wq hSq => ?_) ?_; rotate_left 2; (next => simp only [zM]; try rfl); (next => have kp1q := hSq.at kp1 (fun h => h); have kgq := hSq.at kg (fun h => h); go_simp; try with_reducible rfl); try simp only [zL])
      (refine TD.allocB (by simp only [zK]; rfl) rfl (by rfl) rfl rfl alIn (fun p8 hp8 => ?n54); try simp only [zL])
      (refine TD.storeB (d := ?d55) (T := ?T55) (y := ?y55) (p := ?p55) (b := ?b55) (v := ?v55) (by simp only [zK]; rfl) rfl (by rfl) ?hd55 ?hop55 ?hev55 ?hx55 ?hb55 ?htag55 (fun w1 hb1 => ?hy55) ?hn55; (case hd55 => rfl); (case hop55 => rfl); (case hev55 => (simp only [zM]; (try rfl))); (case hx55 => simp only [zM]; try rfl); (case hb55 => first | exact Bx.set_same _ _ _ | (simp only [Bx.set_same]; rfl)); (case hy55 => (go_simp; (try first | with_reducible rfl | (rw [setCell_blk hb1]; rfl)))); try simp only [zL])
      refine TD.nil (fun w9 hr => ?_)
      replace kp1 := hr.mod.at kp1 (fun h => h)
      replace kg := hr.mod.at kg (fun h => h)
      have kp8 := hr.box p8 _ (by first | exact Bx.set_same _ _ _ | (simp only [Bx.set_same]; rfl)); dsimp only [Value.cells] at kp8; obtain ⟨gp8, kp8⟩ := kp8
      have HNE : Hid (p8 ≠ p4 ∧ v.ownBlock ≠ some p8) := Lib.hid ⟨fun e => by have := lt_size HS.out.g.1; omega, fun e => by have := (HS.out.g.2.1.lt p8 e).2; omega⟩
      have HS := Lib.hid (HS.out.mod0 hr.mod)
      clear hr he hle kg hga kp1
      have hbp := bL1 y.p
      have kp4 := HS.out.g.1
      have kp1 := HS.out.k1
      go_upto_region 18 with fail
      have Lkp4 := lt_size kp4
      have Lkp8 := lt_size kp8
      refine wp_pass0 (C := fun _ _ _ => False) (κ := fun i => [1, 0, 1, 3, 5, 6].getD i 0) [0, 1, 2, 3, 4, 5] (by kernel_rfl) (by kernel_rfl) (fun _ _ d _ _ h => by cases d <;> first | exact h | exact absurd h (hP _ _ _)) ?_
      iterate 3 first | (refine TD.load (v := ?_) (p := ?_) (Mod.refl _ _) (by simp only [zK]; rfl) rfl (by rfl) rfl ?_ (fun wq hSq => ?_) ?_; rotate_left 2; (next => simp only [zM]; try rfl); (next => have kp4q := hSq.at kp4 (fun h => h); have kp8q := hSq.at kp8 (fun h => h); go_simp; try with_reducible rfl); try simp only [zL]) | (refine TD.val0 (v := ?_) (by simp only [zK]; rfl) rfl (by rfl) (fun w1 => ?_) ?_; rotate_left; (next => go_simp; try with_reducible rfl); try simp only [zL])
      (refine TD.bslice (by simp only [zK]; rfl) rfl (by rfl) rfl rfl ?hx59 hbp (fun p64 hp64 => ?n59); (case hx59 => (simp only [List.map_toArray, List.map_cons, List.map_nil, zM]; (try rfl))); try simp only [zL])
      refine TD.eff (by simp only [zK]; rfl) rfl (fun wp hr => ?_)
      replace kp4 := hr.mod.at kp4 (fun h => h)
      replace kp8 := hr.mod.at kp8 (fun h => h)
      have kp64 := hr.box p64 _ (by first | exact Bx.set_same _ _ _ | (simp only [Bx.set_same]; rfl)); dsimp only [Value.cells] at kp64; obtain ⟨gp64, kp64⟩ := kp64
      have HMP := Lib.hid hr.mod
      obtain ⟨v2, wx, ⟨a2, q2, c2, rfl⟩, hap1, hap, k2, hfin⟩ := LyS.app 1 1 (HS.out.mod0 hr.mod) (SlAt.one kp64 y.p rfl rfl) rfl (by have := fm_le (fun y => putI (inP y)) x.ins.l i; have := HLEN.out.2.1; have := HP2.out; simp only [List.length_append, List.length_cons, List.length_nil]; omega) 170
      have HFN := Lib.hid hfin
      clear hr hfin kp4 kp1
      have kp4 := k2
      clear k2
      (refine eff_append (by simp only [zK]; rfl) (by rfl) rfl ?hx61 ?hz61 hap1 ?n61; (case hx61 => simp only [zM]; try rfl); (case hz61 => simp only [zM]; try rfl); try simp only [zL])
      refine TE.step (by simp only [zK]; rfl) rfl ?_
      (refine eff_store (X := ?X62) (Y := ?Y62) (w' := ?w62) (by simp only [zK]; rfl) (by rfl) rfl ?hx62 ?hz62 ?y62 ?n62; (case hx62 => simp only [zM]; try rfl); (case hz62 => simp only [zM]; try rfl); (case y62 => go_simp; try with_reducible rfl))
      (first | refine TE.nil_set kp4 (fun wn kp4 mS => ?_) | refine TE.nil_setCell kp4 (fun wn kp4 mS => ?_))
      (try simp only [Array.setIfInBounds, zL] at kp4)
      have HLY := Lib.hid (HFN.out _ mS kp4)
      have HS := Lib.hid HLY.out.1
      clear mS HFN kp4 hap1 hap
      obtain ⟨wy, rfl⟩ : ∃ wy : World, wy = wn := ⟨_, rfl⟩
      have hx := HLY.out.2.at kp8 HNE.out.1 HNE.out.2
      clear kp8
      have kp8 := hx.1
      have HNE := Lib.hid (And.intro HNE.out.1 hx.2)
      clear hx
      have kp4 := HS.out.g.1
      have kp1 := HS.out.k1
      go_upto_region 19 with fail
      go_wp2_with fail
      go_at_call 107
      refine (list_c (c := y.a.c) _ HS.out.g HY.out.2.1.1.1 HS.out.m (by have := HS.out.lt; omega) HY.out.2.2.1 (by have := fm_le (fun y => putI (inP y)) x.ins.l i; have := HLEN.out.2.1; have := HP2.out; simp only [List.length_append, List.length_cons, List.length_nil]; omega) HS.out.lt.2.2).mono ?_
      rintro e wl ⟨rfl, v4, hG4, hC4⟩
      have HS := Lib.hid (HS.out.step hG4 hC4)
      have hx := hC4.at kp8 HNE.out.1 HNE.out.2
      clear kp8 hC4 hG4 kp4 kp1
      have kp8 := hx.1
      have HNE := Lib.hid (And.intro HNE.out.1 hx.2)
      clear hx
      have kp4 := HS.out.g.1
      have kp1 := HS.out.k1
      go_upto_region 20 with fail
      go_wp2_with fail
      go_at_call 107
      refine (list_c (c := y.d.c) _ HS.out.g HY.out.2.1.2.1 HS.out.m (by have := HS.out.lt; omega) HY.out.2.2.2 (by have := fm_le (fun y => putI (inP y)) x.ins.l i; have := HLEN.out.2.1; have := HP2.out; have := lis_le y.a.l HY.out.2.2.1; simp only [List.length_append, List.length_cons, List.length_nil]; omega) HS.out.lt.2.2).mono ?_
      rintro e wl ⟨rfl, v4, hG4, hC4⟩
      have HS := Lib.hid (HS.out.step hG4 hC4)
      have hx := hC4.at kp8 HNE.out.1 HNE.out.2
      clear kp8 hC4 hG4 kp4 kp1
      have kp8 := hx.1
      have HNE := Lib.hid (And.intro HNE.out.1 hx.2)
      clear hx
      have HS := Lib.hid (show LyS w p4 p1 (p4 + 1) v4 (P2 ++ (x.ins.l.take (i + 1)).flatMap (fun y => putI (inP y))) _ wl by
       have e : P2 ++ (x.ins.l.take (i + 1)).flatMap (fun y => putI (inP y)) = P2 ++ (x.ins.l.take i).flatMap (fun y => putI (inP y)) ++ [y.p] ++ lisP y.a.l ++ lisP y.d.l := by
        rw [fm_snoc HY.out.1]
        simp only [putI, inP, List.append_assoc, List.cons_append, List.nil_append]
       rw [e]
       exact HS.out)
      clear kp8
      go_wp2_with fail
      go_roundw
      case rel => exact ⟨i + 1, _, by omega, by go_num, HS⟩
      case measure => simp [intOf]; omega
     ·have hd := decide_eq_false hlt
      obtain rfl : n2 = i := by omega
      rw [show x.ins.l.take n2 = x.ins.l from List.take_of_length_le (by have := HN.out; omega)] at HS
      clear hi hlt
      have kp1 := HS.out.k1
      go_upto_region 22 with fail
      have Lkp1 := lt_size kp1
      refine wp_pass0 (C := fun _ _ _ => False) (κ := fun i => [0, 1].getD i 0) [0, 1] (by kernel_rfl) (by kernel_rfl) (fun _ _ d _ _ h => by cases d <;> first | exact h | exact absurd h (hP _ _ _)) ?_
      (refine TD.val0 (v := ?_) (by simp only [zK]; rfl) rfl (by rfl) (fun w1 => ?_) ?_; rotate_left; (next => go_simp; try with_reducible rfl); try simp only [zL])
      (refine TD.load (v := ?_) (p := ?_) (Mod.refl _ _) (by simp only [zK]; rfl) rfl (by rfl) rfl ?_ (fun wq hSq => ?_) ?_; rotate_left 2; (next => simp only [zM]; try rfl); (next => have kp1q := hSq.at kp1 (fun h => h); go_simp; try with_reducible rfl); try simp only [zL])
      refine TD.nil (fun w11 hr => ?_)
      replace kp1 := hr.mod.at kp1 (fun h => h)
      have HS := Lib.hid (HS.out.mod0 hr.mod)
      clear hr kp1
      have kp4 := HS.out.g.1
      have kp1 := HS.out.k1
      go_upto_region 23 with fail
      go_wp2_with fail
      go_at_call 106
      refine (many_c n3 (by omega) _ HS.out.g (by have := HLEN.out.2.1; have := HP2.out; simp only [List.length_append]; omega) HS.out.lt.2.2).mono ?_
      rintro e wm ⟨rfl, v3, hG3, hC3⟩
      have HS := Lib.hid (HS.out.step hG3 hC3)
      clear hG3 hC3 kp4 kp1
      obtain ⟨P3, hP3⟩ : ∃ P, P = (P2 ++ x.ins.l.flatMap (fun y => putI (inP y))) ++ shP n3 := ⟨_, rfl⟩
      rw [← hP3] at HS
      have HP3 : Hid (P3.length ≤ 400200) := Lib.hid (by rw [hP3]; have := shP_le n3; have := HLEN.out.2.1; have := HP2.out; simp only [List.length_append]; omega)
      have HE3 := Lib.hid hP3
      clear hP3
      have kp1 := HS.out.k1
      go_upto_region 24 with fail
      have Lkp1 := lt_size kp1
      refine wp_pass0 (C := fun _ _ _ => False) (κ := fun i => [0, 1, 0, 0].getD i 0) [0, 1, 2, 3] (by kernel_rfl) (by kernel_rfl) (fun _ _ d _ _ h => by cases d <;> first | exact h | exact absurd h (hP _ _ _)) ?_
      iterate 4 first | (refine TD.val0 (v := ?_) (by simp only [zK]; rfl) rfl (by rfl) (fun w1 => ?_) ?_; rotate_left; (next => go_simp; try with_reducible rfl); try simp only [zL]) | (refine TD.load (v := ?_) (p := ?_) (Mod.refl _ _) (by simp only [zK]; rfl) rfl (by rfl) rfl ?_ (fun wq hSq => ?_) ?_; rotate_left 2; (next => simp only [zM]; try rfl); (next => have kp1q := hSq.at kp1 (fun h => h); go_simp; try with_reducible rfl); try simp only [zL])
      refine TD.nil (fun w12 hr => ?_)
      replace kp1 := hr.mod.at kp1 (fun h => h)
      have HS := Lib.hid (HS.out.mod0 hr.mod)
      clear hr kp1
      go_wp2_with fail
      go_loopw [82] (fun s82 ws => ∃ (i : Nat) (v : Value), i ≤ n3 ∧ s82 = .int .i64 (i : Int) ∧ Hid (LyS w p4 p1 (p4 + 1) v (P3 ++ (x.lks.l.take i).flatMap (fun y => putLk (loP y))) (.cells (mgx true x.h0 x.h1 x.h2 x.ks.a n1 x.ks.c x.rc x.ins.a n2 x.ins.c x.lks.a n3 x.lks.c) 33 (0, 0)) ws)) (fun s82 _ => n3 - (intOf s82).toNat)
      case atStart => exact ⟨0, _, Nat.zero_le _, rfl, by simpa using HS⟩
      case round =>
       clear HS
       obtain ⟨i, v, hi, rfl, HS⟩ := hrel
       by_cases hlt : i < n3
       ·have hd := decide_eq_true hlt
        obtain ⟨y, hy⟩ : ∃ y, x.lks.l[i]? = some y := ⟨_, List.getElem?_eq_getElem (by have := HN.out; omega)⟩
        obtain ⟨g, o, C, U, fr, hga, kg, he, hle⟩ := (HX.out.2.2.1.mod0 HS.out.m).block hy
        have HY := Lib.hid (And.intro hy (And.intro (HX.out.2.2.2.2 y (List.mem_of_getElem? hy)) (HBL.out y (List.mem_of_getElem? hy))))
        have kp1 := HS.out.k1
        clear hy
        go_upto_region 26 with fail
        have Lkp1 := lt_size kp1
        have Lkg := lt_size kg
        refine wp_pass0 (C := fun _ _ _ => False) (κ := fun i => [0, 1, 3, 4].getD i 0) [0, 1, 2, 3] (by kernel_rfl) (by kernel_rfl) (fun _ _ d _ _ h => by cases d <;> first | exact h | exact absurd h (hP _ _ _)) ?_
        (refine TD.val0 (v := ?_) (by simp only [zK]; rfl) rfl (by rfl) (fun w1 => ?_) ?_; rotate_left; (next => go_simp; try with_reducible rfl); try simp only [zL])
        (refine TD.load (v := ?_) (p := ?_) (Mod.refl _ _) (by simp only [zK]; rfl) rfl (by rfl) rfl ?_ (fun wq hSq => ?_) ?_; rotate_left 2; (next => simp only [zM]; try rfl); (next => have kp1q := hSq.at kp1 (fun h => h); have kgq := hSq.at kg (fun h => h); go_simp; try with_reducible rfl); try simp only [zL])
        (refine TD.allocB (by simp only [zK]; rfl) rfl (by rfl) rfl rfl alLo (fun p10 hp10 => ?n71); try simp only [zL])
        (refine TD.storeB (d := ?d72) (T := ?T72) (y := ?y72) (p := ?p72) (b := ?b72) (v := ?v72) (by simp only [zK]; rfl) rfl (by rfl) ?hd72 ?hop72 ?hev72 ?hx72 ?hb72 ?htag72 (fun w1 hb1 => ?hy72) ?hn72; (case hd72 => rfl); (case hop72 => rfl); (case hev72 => (simp only [zM]; (try rfl))); (case hx72 => simp only [zM]; try rfl); (case hb72 => first | exact Bx.set_same _ _ _ | (simp only [Bx.set_same]; rfl)); (case hy72 => (go_simp; (try first | with_reducible rfl | (rw [setCell_blk hb1]; rfl)))); try simp only [zL])
        refine TD.nil (fun w9 hr => ?_)
        replace kp1 := hr.mod.at kp1 (fun h => h)
        replace kg := hr.mod.at kg (fun h => h)
        have kp10 := hr.box p10 _ (by first | exact Bx.set_same _ _ _ | (simp only [Bx.set_same]; rfl)); dsimp only [Value.cells] at kp10; obtain ⟨gp10, kp10⟩ := kp10
        have HNE : Hid (p10 ≠ p4 ∧ v.ownBlock ≠ some p10) := Lib.hid ⟨fun e => by have := lt_size HS.out.g.1; omega, fun e => by have := (HS.out.g.2.1.lt p10 e).2; omega⟩
        have HS := Lib.hid (HS.out.mod0 hr.mod)
        clear hr he hle kg hga kp1
        have hsk := skey p10 0
        have kp4 := HS.out.g.1
        have kp1 := HS.out.k1
        go_upto_region 27 with fail
        have Lkp4 := lt_size kp4
        have Lkp10 := lt_size kp10
        refine wp_pass (C := fun _ _ _ => False) (κ := fun i => [1, 0, 0, 5, 6].getD i 0) [0, 1, 2, 3, 4] (by kernel_rfl) (by kernel_rfl) (fun _ _ d _ _ h => by cases d <;> first | exact h | exact absurd h (hP _ _ _)) ?_
        (refine TD.load (v := ?_) (p := ?_) (Mod.refl _ _) (by simp only [zK]; rfl) rfl (by rfl) rfl ?_ (fun wq hSq => ?_) ?_; rotate_left 2; (next => simp only [zM]; try rfl); (next => have kp4q := hSq.at kp4 (fun h => h); have kp10q := hSq.at kp10 (fun h => h); go_simp; try with_reducible rfl); try simp only [zL])
        (refine TD.val0 (v := ?_) (by simp only [zK]; rfl) rfl (by rfl) (fun w1 => ?_) ?_; rotate_left; (next => go_simp; try with_reducible rfl); try simp only [zL])
        (refine TD.slice (by simp only [zK]; rfl) rfl (by rfl) rfl ?hs75 ?hl75 ?hh75 ?hm75 hsk ?n75; (case hs75 => simp only [zM]; try rfl); (case hl75 => first | rfl | (simp only [Option.map_some, zM]; (try rfl))); (case hh75 => first | rfl | (simp only [Option.map_some, zM]; (try rfl))); (case hm75 => rfl); try simp only [zL])
        refine TD.eff (by simp only [zK]; rfl) rfl (fun wp hr => ?_)
        replace kp4 := hr.mod.at kp4 (fun h => h)
        replace kp10 := hr.mod.at kp10 (fun h => h)
        have HMP := Lib.hid hr.mod
        obtain ⟨v2, wx, ⟨a2, q2, c2, rfl⟩, hap1, hap, k2, hfin⟩ := LyS.app 32 32 (HS.out.mod0 hr.mod) (key_bytes kp10 (lor_key y)) y.t.h (by have := fm_le (fun y => putLk (loP y)) x.lks.l i; have := HLEN.out.2.2 (by first | rfl | trivial); have := HP3.out; have := y.t.h; simp only [List.length_append]; omega) 170
        have HFN := Lib.hid hfin
        clear hr hfin kp4 kp1
        have kp4 := k2
        clear k2
        (refine eff_append2 (by simp only [zK]; rfl) (by rfl) rfl ?hx77 ?hz77 hap ?n77; (case hx77 => simp only [zM]; try rfl); (case hz77 => simp only [zM]; try rfl); try simp only [zL])
        refine TE.step (by simp only [zK]; rfl) rfl ?_
        (refine eff_store (X := ?X78) (Y := ?Y78) (w' := ?w78) (by simp only [zK]; rfl) (by rfl) rfl ?hx78 ?hz78 ?y78 ?n78; (case hx78 => simp only [zM]; try rfl); (case hz78 => simp only [zM]; try rfl); (case y78 => go_simp; try with_reducible rfl))
        (first | refine TE.nil_set kp4 (fun wn kp4 mS => ?_) | refine TE.nil_setCell kp4 (fun wn kp4 mS => ?_))
        (try simp only [Array.setIfInBounds, zL] at kp4)
        have HLY := Lib.hid (HFN.out _ mS kp4)
        have HS := Lib.hid HLY.out.1
        clear mS HFN kp4 hap1 hap
        obtain ⟨wy, rfl⟩ : ∃ wy : World, wy = wn := ⟨_, rfl⟩
        have hx := HLY.out.2.at kp10 HNE.out.1 HNE.out.2
        clear kp10
        have kp10 := hx.1
        have HNE := Lib.hid (And.intro HNE.out.1 hx.2)
        clear hx
        have kp4 := HS.out.g.1
        have kp1 := HS.out.k1
        go_upto_region 28 with fail
        go_wp2_with fail
        go_at_call 107
        refine (list_c (c := y.w.c) _ HS.out.g HY.out.2.1.1.1 HS.out.m (by have := HS.out.lt; omega) HY.out.2.2.1 (by have := fm_le (fun y => putLk (loP y)) x.lks.l i; have := HLEN.out.2.2 (by first | rfl | trivial); have := HP3.out; have := y.t.h; simp only [List.length_append]; omega) HS.out.lt.2.2).mono ?_
        rintro e wl ⟨rfl, v4, hG4, hC4⟩
        have HS := Lib.hid (HS.out.step hG4 hC4)
        have hx := hC4.at kp10 HNE.out.1 HNE.out.2
        clear kp10 hC4 hG4 kp4 kp1
        have kp10 := hx.1
        have HNE := Lib.hid (And.intro HNE.out.1 hx.2)
        clear hx
        have kp4 := HS.out.g.1
        have kp1 := HS.out.k1
        go_upto_region 29 with fail
        go_wp2_with fail
        go_at_call 107
        refine (list_c (c := y.r.c) _ HS.out.g HY.out.2.1.2.1 HS.out.m (by have := HS.out.lt; omega) HY.out.2.2.2 (by have := fm_le (fun y => putLk (loP y)) x.lks.l i; have := HLEN.out.2.2 (by first | rfl | trivial); have := HP3.out; have := y.t.h; have := lis_le y.w.l HY.out.2.2.1; simp only [List.length_append]; omega) HS.out.lt.2.2).mono ?_
        rintro e wl ⟨rfl, v4, hG4, hC4⟩
        have HS := Lib.hid (HS.out.step hG4 hC4)
        have hx := hC4.at kp10 HNE.out.1 HNE.out.2
        clear kp10 hC4 hG4 kp4 kp1
        have kp10 := hx.1
        have HNE := Lib.hid (And.intro HNE.out.1 hx.2)
        clear hx
        have HS := Lib.hid (show LyS w p4 p1 (p4 + 1) v4 (P3 ++ (x.lks.l.take (i + 1)).flatMap (fun y => putLk (loP y))) _ wl by
         have e : P3 ++ (x.lks.l.take (i + 1)).flatMap (fun y => putLk (loP y)) = P3 ++ (x.lks.l.take i).flatMap (fun y => putLk (loP y)) ++ y.t.l ++ lisP y.w.l ++ lisP y.r.l := by
          rw [fm_snoc HY.out.1]
          simp only [putLk, loP, List.append_assoc]
         rw [e]
         exact HS.out)
        clear kp10
        go_wp2_with fail
        go_roundw
        case rel => exact ⟨i + 1, _, by omega, by go_num, HS⟩
        case measure => simp [intOf]; omega
       ·have hd := decide_eq_false hlt
        obtain rfl : n3 = i := by omega
        rw [show x.lks.l.take n3 = x.lks.l from List.take_of_length_le (by have := HN.out; omega)] at HS
        clear hi hlt
        have hB : (P3 ++ x.lks.l.flatMap (fun y => putLk (loP y))) = PM := by
         rw [HPUT.out, HE3.out, HE2.out, HE1.out]; simp
        rw [hB] at HS
        obtain ⟨a, c, rfl, hcl, hN⟩ := clip_newL HS.out.g.2.1
        obtain ⟨k, hk⟩ : ∃ k, PM.length = k := ⟨_, rfl⟩
        have kp4 := HS.out.g.1
        rw [hk] at kp4 hcl
        have HF := Lib.hid (And.intro hN (And.intro hk (And.intro HS.out.m HS.out.lt)))
        clear hB hN hk
        go_upto_region 31 with fail
        have Lkp4 := lt_size kp4
        refine wp_pass0 (C := fun _ _ v => v = .slice a k k) (κ := fun i => [1, 2, 0, 0].getD i 0) [0, 1, 2, 3] (by kernel_rfl) (by kernel_rfl) (fun _ _ d _ _ h => by cases d <;> first | exact h | exact absurd h (hP _ _ _)) ?_
        (refine TD.load (v := ?_) (p := ?_) (Mod.refl _ _) (by simp only [zK]; rfl) rfl (by rfl) rfl ?_ (fun wq hSq => ?_) ?_; rotate_left 2; (next => simp only [zM]; try rfl); (next => have kp4q := hSq.at kp4 (fun h => h); go_simp; try with_reducible rfl); try simp only [zL])
        (refine TD.call (f := ?f80) (args := ?r80) (Mod.refl _ _) (by simp only [zK]; rfl) rfl (by rfl) (fun w1 => ?y80) ?hsp80 ?n80; (case y80 => (go_simp; (first | with_reducible rfl | (constructor <;> with_reducible rfl)))); (case hsp80 => (intro wq hSq; have kp4q := hSq.at kp4 (fun h => h); exact (clipLay_c _ _ _ hcl).mono (fun e w' h => ⟨_, h.1, rfl, by rw [h.2]; exact Mod.refl _ _⟩))); rintro _ hC; subst hC; try simp only [zL])
        iterate 2 (refine TD.val0 (v := ?_) (by simp only [zK]; rfl) rfl (by rfl) (fun w1 => ?_) ?_; rotate_left; (next => go_simp; try with_reducible rfl); try simp only [zL])
        refine TD.nil (fun wz hr => ?_)
        replace kp4 := hr.mod.at kp4 (fun h => h)
        have HMZ := Lib.hid hr.mod
        clear hr hcl
        go_wp2_with fail
        go_ret2
        refine ⟨a, ?_, (HF.out.1.base (by have := HF.out.2.2.2; omega)).mod0 HMZ.out, HF.out.2.2.1.then0 HMZ.out⟩
        rw [HF.out.2.1]
        rfl
 | false =>
  have kp1 := HS.out.k1
  go_upto_region 4 with fail
  have Lkp1 := lt_size kp1
  refine wp_pass0 (C := fun _ _ _ => False) (κ := fun i => [0, 1].getD i 0) [0, 1] (by kernel_rfl) (by kernel_rfl) (fun _ _ d _ _ h => by cases d <;> first | exact h | exact absurd h (hP _ _ _)) ?_
  (refine TD.val0 (v := ?_) (by simp only [zK]; rfl) rfl (by rfl) (fun w1 => ?_) ?_; rotate_left; (next => go_simp; try with_reducible rfl); try simp only [zL])
  (refine TD.load (v := ?_) (p := ?_) (Mod.refl _ _) (by simp only [zK]; rfl) rfl (by rfl) rfl ?_ (fun wq hSq => ?_) ?_; rotate_left 2; (next => simp only [zM]; try rfl); (next => have kp1q := hSq.at kp1 (fun h => h); go_simp; try with_reducible rfl); try simp only [zL])
  refine TD.nil (fun w4 hr => ?_)
  replace kp1 := hr.mod.at kp1 (fun h => h)
  have HS := Lib.hid (HS.out.mod0 hr.mod)
  clear hr kp1
  have kp4 := HS.out.g.1
  have kp1 := HS.out.k1
  go_upto_region 6 with fail
  have Lkp1 := lt_size kp1
  have Lkp4 := lt_size kp4
  refine wp_pass0 (C := fun _ _ _ => False) (κ := fun i => [1, 0, 0, 1, 0, 0, 1, 0, 0, 1, 3, 5, 6].getD i 0) [0, 1, 2, 3, 4, 5, 6, 7, 8, 9, 10, 11, 12] (by kernel_rfl) (by kernel_rfl) (fun _ _ d _ _ h => by cases d <;> first | exact h | exact absurd h (hP _ _ _)) ?_
  iterate 10 first | (refine TD.load (v := ?_) (p := ?_) (Mod.refl _ _) (by simp only [zK]; rfl) rfl (by rfl) rfl ?_ (fun wq hSq => ?_) ?_; rotate_left 2; (next => simp only [zM]; try rfl); (next => have kp1q := hSq.at kp1 (fun h => h); have kp4q := hSq.at kp4 (fun h => h); go_simp; try with_reducible rfl); try simp only [zL]) | (refine TD.val0 (v := ?_) (by simp only [zK]; rfl) rfl (by rfl) (fun w1 => ?_) ?_; rotate_left; (next => go_simp; try with_reducible rfl); try simp only [zL])
  (refine TD.bslice (by simp only [zK]; rfl) rfl (by rfl) rfl rfl ?hx95 hbh (fun p29 hp29 => ?n95); (case hx95 => (simp only [List.map_toArray, List.map_cons, List.map_nil, zM]; (try rfl))); try simp only [zL])
  refine TD.eff (by simp only [zK]; rfl) rfl (fun wp hr => ?_)
  replace kp1 := hr.mod.at kp1 (fun h => h)
  replace kp4 := hr.mod.at kp4 (fun h => h)
  have kp29 := hr.box p29 _ (by first | exact Bx.set_same _ _ _ | (simp only [Bx.set_same]; rfl)); dsimp only [Value.cells] at kp29; obtain ⟨gp29, kp29⟩ := kp29
  have HMP := Lib.hid hr.mod
  obtain ⟨v2, wx, ⟨a2, q2, c2, rfl⟩, hap1, hap, k2, hfin⟩ := LyS.app 3 3 (HS.out.mod0 hr.mod) (three_at kp29) rfl (by simp) 170
  have HFN := Lib.hid hfin
  clear hr hfin kp4 kp1
  have kp4 := k2
  clear k2
  (refine eff_append (by simp only [zK]; rfl) (by rfl) rfl ?hx97 ?hz97 hap1 ?n97; (case hx97 => simp only [zM]; try rfl); (case hz97 => simp only [zM]; try rfl); try simp only [zL])
  refine TE.step (by simp only [zK]; rfl) rfl ?_
  (refine eff_store (X := ?X98) (Y := ?Y98) (w' := ?w98) (by simp only [zK]; rfl) (by rfl) rfl ?hx98 ?hz98 ?y98 ?n98; (case hx98 => simp only [zM]; try rfl); (case hz98 => simp only [zM]; try rfl); (case y98 => go_simp; try with_reducible rfl))
  (first | refine TE.nil_set kp4 (fun wn kp4 mS => ?_) | refine TE.nil_setCell kp4 (fun wn kp4 mS => ?_))
  (try simp only [Array.setIfInBounds, zL] at kp4)
  have HLY := Lib.hid (HFN.out _ mS kp4)
  have HS := Lib.hid HLY.out.1
  clear mS HFN kp4 hap1 hap
  obtain ⟨wy, rfl⟩ : ∃ wy : World, wy = wn := ⟨_, rfl⟩
  have kp4 := HS.out.g.1
  have kp1 := HS.out.k1
  go_upto_region 7 with fail
  go_wp2_with fail
  go_at_call 106
  refine (many_c n1 (by omega) _ HS.out.g (by simp) HS.out.lt.2.2).mono ?_
  rintro e wm ⟨rfl, v3, hG3, hC3⟩
  have HS := Lib.hid (HS.out.step hG3 hC3)
  clear hG3 hC3 kp4 kp1
  obtain ⟨P1, hP1⟩ : ∃ P, P = ([] ++ [x.h0, x.h1, x.h2]) ++ shP n1 := ⟨_, rfl⟩
  rw [← hP1] at HS
  have HP1 : Hid (P1.length ≤ 30) := Lib.hid (by rw [hP1]; have := shP_le n1; simp; omega)
  have HE1 := Lib.hid hP1
  clear hP1
  have kp1 := HS.out.k1
  go_upto_region 8 with fail
  have Lkp1 := lt_size kp1
  refine wp_pass0 (C := fun _ _ _ => False) (κ := fun i => [0, 1, 0, 0].getD i 0) [0, 1, 2, 3] (by kernel_rfl) (by kernel_rfl) (fun _ _ d _ _ h => by cases d <;> first | exact h | exact absurd h (hP _ _ _)) ?_
  iterate 4 first | (refine TD.val0 (v := ?_) (by simp only [zK]; rfl) rfl (by rfl) (fun w1 => ?_) ?_; rotate_left; (next => go_simp; try with_reducible rfl); try simp only [zL]) | (refine TD.load (v := ?_) (p := ?_) (Mod.refl _ _) (by simp only [zK]; rfl) rfl (by rfl) rfl ?_ (fun wq hSq => ?_) ?_; rotate_left 2; (next => simp only [zM]; try rfl); (next => have kp1q := hSq.at kp1 (fun h => h); go_simp; try with_reducible rfl); try simp only [zL])
  refine TD.nil (fun w8 hr => ?_)
  replace kp1 := hr.mod.at kp1 (fun h => h)
  have HS := Lib.hid (HS.out.mod0 hr.mod)
  clear hr kp1
  go_wp2_with fail
  go_loopw [38] (fun s38 ws => ∃ (i : Nat) (v : Value), i ≤ n1 ∧ s38 = .int .i64 (i : Int) ∧ Hid (LyS w p4 p1 (p4 + 1) v (P1 ++ (x.ks.l.take i).flatMap (·.l)) (.cells (mgx false x.h0 x.h1 x.h2 x.ks.a n1 x.ks.c x.rc x.ins.a n2 x.ins.c x.lks.a n3 x.lks.c) 33 (0, 0)) ws)) (fun s38 _ => n1 - (intOf s38).toNat)
  case atStart => exact ⟨0, _, Nat.zero_le _, rfl, by simpa using HS⟩
  case round =>
   obtain ⟨i, v, hi, rfl, HS⟩ := hrel
   by_cases hlt : i < n1
   ·have hd := decide_eq_true hlt
    obtain ⟨y, hy⟩ : ∃ y, x.ks.l[i]? = some y := ⟨_, List.getElem?_eq_getElem (by have := HN.out; omega)⟩
    obtain ⟨g, o, C, U, fr, hga, kg, he, hle⟩ := (HX.out.1.1.mod0 HS.out.m).block hy
    have HY := Lib.hid hy
    have kp1 := HS.out.k1
    clear hy
    go_upto_region 10 with fail
    have Lkp1 := lt_size kp1
    have Lkg := lt_size kg
    refine wp_pass0 (C := fun _ _ _ => False) (κ := fun i => [0, 1, 3, 4].getD i 0) [0, 1, 2, 3] (by kernel_rfl) (by kernel_rfl) (fun _ _ d _ _ h => by cases d <;> first | exact h | exact absurd h (hP _ _ _)) ?_
    (refine TD.val0 (v := ?_) (by simp only [zK]; rfl) rfl (by rfl) (fun w1 => ?_) ?_; rotate_left; (next => go_simp; try with_reducible rfl); try simp only [zL])
    (refine TD.load (v := ?_) (p := ?_) (Mod.refl _ _) (by simp only [zK]; rfl) rfl (by rfl) rfl ?_ (fun wq hSq => ?_) ?_; rotate_left 2; (next => simp only [zM]; try rfl); (next => have kp1q := hSq.at kp1 (fun h => h); have kgq := hSq.at kg (fun h => h); go_simp; try with_reducible rfl); try simp only [zL])
    (refine TD.allocB (by simp only [zK]; rfl) rfl (by rfl) rfl rfl alKey (fun p6 hp6 => ?n105); try simp only [zL])
    (refine TD.storeB (d := ?d106) (T := ?T106) (y := ?y106) (p := ?p106) (b := ?b106) (v := ?v106) (by simp only [zK]; rfl) rfl (by rfl) ?hd106 ?hop106 ?hev106 ?hx106 ?hb106 ?htag106 (fun w1 hb1 => ?hy106) ?hn106; (case hd106 => rfl); (case hop106 => rfl); (case hev106 => (simp only [zM]; (try rfl))); (case hx106 => simp only [zM]; try rfl); (case hb106 => first | exact Bx.set_same _ _ _ | (simp only [Bx.set_same]; rfl)); (case hy106 => (go_simp; (try first | with_reducible rfl | (rw [setCell_blk hb1]; rfl)))); try simp only [zL])
    refine TD.nil (fun w9 hr => ?_)
    replace kp1 := hr.mod.at kp1 (fun h => h)
    replace kg := hr.mod.at kg (fun h => h)
    have kp6 := hr.box p6 _ (by first | exact Bx.set_same _ _ _ | (simp only [Bx.set_same]; rfl)); dsimp only [Value.cells] at kp6; obtain ⟨gp6, kp6⟩ := kp6
    have HS := Lib.hid (HS.out.mod0 hr.mod)
    clear hr he hle kg hga kp1
    have hsk := skey p6 0
    have kp4 := HS.out.g.1
    have kp1 := HS.out.k1
    go_upto_region 11 with fail
    have Lkp4 := lt_size kp4
    have Lkp6 := lt_size kp6
    refine wp_pass (C := fun _ _ _ => False) (κ := fun i => [1, 0, 5, 6].getD i 0) [0, 1, 2, 3] (by kernel_rfl) (by kernel_rfl) (fun _ _ d _ _ h => by cases d <;> first | exact h | exact absurd h (hP _ _ _)) ?_
    (refine TD.load (v := ?_) (p := ?_) (Mod.refl _ _) (by simp only [zK]; rfl) rfl (by rfl) rfl ?_ (fun wq hSq => ?_) ?_; rotate_left 2; (next => simp only [zM]; try rfl); (next => have kp4q := hSq.at kp4 (fun h => h); have kp6q := hSq.at kp6 (fun h => h); go_simp; try with_reducible rfl); try simp only [zL])
    (refine TD.slice (by simp only [zK]; rfl) rfl (by rfl) rfl ?hs108 ?hl108 ?hh108 ?hm108 hsk ?n108; (case hs108 => simp only [zM]; try rfl); (case hl108 => first | rfl | (simp only [Option.map_some, zM]; (try rfl))); (case hh108 => first | rfl | (simp only [Option.map_some, zM]; (try rfl))); (case hm108 => rfl); try simp only [zL])
    refine TD.eff (by simp only [zK]; rfl) rfl (fun wp hr => ?_)
    replace kp4 := hr.mod.at kp4 (fun h => h)
    replace kp6 := hr.mod.at kp6 (fun h => h)
    have HMP := Lib.hid hr.mod
    obtain ⟨v2, wx, ⟨a2, q2, c2, rfl⟩, hap1, hap, k2, hfin⟩ := LyS.app 32 32 (HS.out.mod0 hr.mod) (key_bytes kp6 (kc_ext y)) y.h (by have := fm_le (fun k : Key => k.l) x.ks.l i; have := HLEN.out.1; have := HP1.out; have := y.h; simp only [List.length_append]; omega) 170
    have HFN := Lib.hid hfin
    clear hr hfin kp4 kp1
    have kp4 := k2
    clear k2
    (refine eff_append2 (by simp only [zK]; rfl) (by rfl) rfl ?hx110 ?hz110 hap ?n110; (case hx110 => simp only [zM]; try rfl); (case hz110 => simp only [zM]; try rfl); try simp only [zL])
    refine TE.step (by simp only [zK]; rfl) rfl ?_
    (refine eff_store (X := ?X111) (Y := ?Y111) (w' := ?w111) (by simp only [zK]; rfl) (by rfl) rfl ?hx111 ?hz111 ?y111 ?n111; (case hx111 => simp only [zM]; try rfl); (case hz111 => simp only [zM]; try rfl); (case y111 => go_simp; try with_reducible rfl))
    (first | refine TE.nil_set kp4 (fun wn kp4 mS => ?_) | refine TE.nil_setCell kp4 (fun wn kp4 mS => ?_))
    (try simp only [Array.setIfInBounds, zL] at kp4)
    have HLY := Lib.hid (HFN.out _ mS kp4)
    have HS := Lib.hid HLY.out.1
    clear mS HFN kp4 hap1 hap
    obtain ⟨wy, rfl⟩ : ∃ wy : World, wy = wn := ⟨_, rfl⟩
    have HS := Lib.hid (show LyS w p4 p1 (p4 + 1) (.slice a2 q2 c2) (P1 ++ (x.ks.l.take (i + 1)).flatMap (·.l)) _ wy by rw [fm_snoc HY.out, ← List.append_assoc]; exact HS.out)
    go_wp2_with fail
    go_roundw
    case rel => exact ⟨i + 1, _, by omega, by go_num, HS⟩
    case measure => simp [intOf]; omega
   ·have hd := decide_eq_false hlt
    obtain rfl : n1 = i := by omega
    rw [show x.ks.l.take n1 = x.ks.l from List.take_of_length_le (by have := HN.out; omega)] at HS
    clear hi hlt
    have hsh := shash p1 5
    have kp4 := HS.out.g.1
    have kp1 := HS.out.k1
    go_upto_region 13 with fail
    have Lkp4 := lt_size kp4
    have Lkp1 := lt_size kp1
    refine wp_pass (C := fun _ _ _ => False) (κ := fun i => [1, 0, 0, 5, 6].getD i 0) [0, 1, 2, 3, 4] (by kernel_rfl) (by kernel_rfl) (fun _ _ d _ _ h => by cases d <;> first | exact h | exact absurd h (hP _ _ _)) ?_
    (refine TD.load (v := ?_) (p := ?_) (Mod.refl _ _) (by simp only [zK]; rfl) rfl (by rfl) rfl ?_ (fun wq hSq => ?_) ?_; rotate_left 2; (next => simp only [zM]; try rfl); (next => have kp4q := hSq.at kp4 (fun h => h); have kp1q := hSq.at kp1 (fun h => h); go_simp; try with_reducible rfl); try simp only [zL])
    (refine TD.val0 (v := ?_) (by simp only [zK]; rfl) rfl (by rfl) (fun w1 => ?_) ?_; rotate_left; (next => go_simp; try with_reducible rfl); try simp only [zL])
    (refine TD.slice (by simp only [zK]; rfl) rfl (by rfl) rfl ?hs114 ?hl114 ?hh114 ?hm114 hsh ?n114; (case hs114 => simp only [zM]; try rfl); (case hl114 => first | rfl | (simp only [Option.map_some, zM]; (try rfl))); (case hh114 => first | rfl | (simp only [Option.map_some, zM]; (try rfl))); (case hm114 => rfl); try simp only [zL])
    refine TD.eff (by simp only [zK]; rfl) rfl (fun wp hr => ?_)
    replace kp4 := hr.mod.at kp4 (fun h => h)
    replace kp1 := hr.mod.at kp1 (fun h => h)
    have HMP := Lib.hid hr.mod
    obtain ⟨v2, wx, ⟨a2, q2, c2, rfl⟩, hap1, hap, k2, hfin⟩ := LyS.app 32 32 (HS.out.mod0 hr.mod) (key_bytes kp1 (mgx_hs ..)) x.rc.h (by have := HLEN.out.1; have := HP1.out; have := x.rc.h; simp only [List.length_append]; omega) 170
    have HFN := Lib.hid hfin
    clear hr hfin kp4 kp1
    have kp4 := k2
    clear k2
    (refine eff_append2 (by simp only [zK]; rfl) (by rfl) rfl ?hx116 ?hz116 hap ?n116; (case hx116 => simp only [zM]; try rfl); (case hz116 => simp only [zM]; try rfl); try simp only [zL])
    refine TE.step (by simp only [zK]; rfl) rfl ?_
    (refine eff_store (X := ?X117) (Y := ?Y117) (w' := ?w117) (by simp only [zK]; rfl) (by rfl) rfl ?hx117 ?hz117 ?y117 ?n117; (case hx117 => simp only [zM]; try rfl); (case hz117 => simp only [zM]; try rfl); (case y117 => go_simp; try with_reducible rfl))
    (first | refine TE.nil_set kp4 (fun wn kp4 mS => ?_) | refine TE.nil_setCell kp4 (fun wn kp4 mS => ?_))
    (try simp only [Array.setIfInBounds, zL] at kp4)
    have HLY := Lib.hid (HFN.out _ mS kp4)
    have HS := Lib.hid HLY.out.1
    clear mS HFN kp4 hap1 hap
    obtain ⟨wy, rfl⟩ : ∃ wy : World, wy = wn := ⟨_, rfl⟩
    have kp4 := HS.out.g.1
    have kp1 := HS.out.k1
    go_upto_region 14 with fail
    go_wp2_with fail
    go_at_call 106
    refine (many_c n2 (by omega) _ HS.out.g (by have := HLEN.out.1; have := HP1.out; have := x.rc.h; simp only [List.length_append]; omega) HS.out.lt.2.2).mono ?_
    rintro e wm ⟨rfl, v3, hG3, hC3⟩
    have HS := Lib.hid (HS.out.step hG3 hC3)
    clear hG3 hC3 kp4 kp1
    obtain ⟨P2, hP2⟩ : ∃ P, P = ((P1 ++ x.ks.l.flatMap (·.l)) ++ x.rc.l) ++ shP n2 := ⟨_, rfl⟩
    rw [← hP2] at HS
    have HP2 : Hid (P2.length ≤ 200100) := Lib.hid (by rw [hP2]; have := shP_le n2; have := HLEN.out.1; have := HP1.out; have := x.rc.h; simp only [List.length_append]; omega)
    have HE2 := Lib.hid hP2
    clear hP2 hsh
    have kp1 := HS.out.k1
    go_upto_region 15 with fail
    have Lkp1 := lt_size kp1
    refine wp_pass0 (C := fun _ _ _ => False) (κ := fun i => [0, 1, 0, 0].getD i 0) [0, 1, 2, 3] (by kernel_rfl) (by kernel_rfl) (fun _ _ d _ _ h => by cases d <;> first | exact h | exact absurd h (hP _ _ _)) ?_
    iterate 4 first | (refine TD.val0 (v := ?_) (by simp only [zK]; rfl) rfl (by rfl) (fun w1 => ?_) ?_; rotate_left; (next => go_simp; try with_reducible rfl); try simp only [zL]) | (refine TD.load (v := ?_) (p := ?_) (Mod.refl _ _) (by simp only [zK]; rfl) rfl (by rfl) rfl ?_ (fun wq hSq => ?_) ?_; rotate_left 2; (next => simp only [zM]; try rfl); (next => have kp1q := hSq.at kp1 (fun h => h); go_simp; try with_reducible rfl); try simp only [zL])
    refine TD.nil (fun w10 hr => ?_)
    replace kp1 := hr.mod.at kp1 (fun h => h)
    have HS := Lib.hid (HS.out.mod0 hr.mod)
    clear hr kp1
    go_wp2_with fail
    go_loopw [57] (fun s57 ws => ∃ (i : Nat) (v : Value), i ≤ n2 ∧ s57 = .int .i64 (i : Int) ∧ Hid (LyS w p4 p1 (p4 + 1) v (P2 ++ (x.ins.l.take i).flatMap (fun y => putI (inP y))) (.cells (mgx false x.h0 x.h1 x.h2 x.ks.a n1 x.ks.c x.rc x.ins.a n2 x.ins.c x.lks.a n3 x.lks.c) 33 (0, 0)) ws)) (fun s57 _ => n2 - (intOf s57).toNat)
    case atStart => exact ⟨0, _, Nat.zero_le _, rfl, by simpa using HS⟩
    case round =>
     clear HS
     obtain ⟨i, v, hi, rfl, HS⟩ := hrel
     by_cases hlt : i < n2
     ·have hd := decide_eq_true hlt
      obtain ⟨y, hy⟩ : ∃ y, x.ins.l[i]? = some y := ⟨_, List.getElem?_eq_getElem (by have := HN.out; omega)⟩
      obtain ⟨g, o, C, U, fr, hga, kg, he, hle⟩ := (HX.out.2.1.1.mod0 HS.out.m).block hy
      have HY := Lib.hid (And.intro hy (And.intro (HX.out.2.1.2.2 y (List.mem_of_getElem? hy)) (HBI.out y (List.mem_of_getElem? hy))))
      have kp1 := HS.out.k1
      clear hy
      go_upto_region 17 with fail
      have Lkp1 := lt_size kp1
      have Lkg := lt_size kg
      refine wp_pass0 (C := fun _ _ _ => False) (κ := fun i => [0, 1, 3, 4].getD i 0) [0, 1, 2, 3] (by kernel_rfl) (by kernel_rfl) (fun _ _ d _ _ h => by cases d <;> first | exact h | exact absurd h (hP _ _ _)) ?_
      (refine TD.val0 (v := ?_) (by simp only [zK]; rfl) rfl (by rfl) (fun w1 => ?_) ?_; rotate_left; (next => go_simp; try with_reducible rfl); try simp only [zL])
      (refine TD.load (v := ?_) (p := ?_) (Mod.refl _ _) (by simp only [zK]; rfl) rfl (by rfl) rfl ?_ (fun wq hSq => ?_) ?_; rotate_left 2; (next => simp only [zM]; try rfl); (next => have kp1q := hSq.at kp1 (fun h => h); have kgq := hSq.at kg (fun h => h); go_simp; try with_reducible rfl); try simp only [zL])
      (refine TD.allocB (by simp only [zK]; rfl) rfl (by rfl) rfl rfl alIn (fun p8 hp8 => ?n124); try simp only [zL])
      (refine TD.storeB (d := ?d125) (T := ?T125) (y := ?y125) (p := ?p125) (b := ?b125) (v := ?v125) (by simp only [zK]; rfl) rfl (by rfl) ?hd125 ?hop125 ?hev125 ?hx125 ?hb125 ?htag125 (fun w1 hb1 => ?hy125) ?hn125; (case hd125 => rfl); (case hop125 => rfl); (case hev125 => (simp only [zM]; (try rfl))); (case hx125 => simp only [zM]; try rfl); (case hb125 => first | exact Bx.set_same _ _ _ | (simp only [Bx.set_same]; rfl)); (case hy125 => (go_simp; (try first | with_reducible rfl | (rw [setCell_blk hb1]; rfl)))); try simp only [zL])
      refine TD.nil (fun w9 hr => ?_)
      replace kp1 := hr.mod.at kp1 (fun h => h)
      replace kg := hr.mod.at kg (fun h => h)
      have kp8 := hr.box p8 _ (by first | exact Bx.set_same _ _ _ | (simp only [Bx.set_same]; rfl)); dsimp only [Value.cells] at kp8; obtain ⟨gp8, kp8⟩ := kp8
      have HNE : Hid (p8 ≠ p4 ∧ v.ownBlock ≠ some p8) := Lib.hid ⟨fun e => by have := lt_size HS.out.g.1; omega, fun e => by have := (HS.out.g.2.1.lt p8 e).2; omega⟩
      have HS := Lib.hid (HS.out.mod0 hr.mod)
      clear hr he hle kg hga kp1
      have hbp := bL1 y.p
      have kp4 := HS.out.g.1
      have kp1 := HS.out.k1
      go_upto_region 18 with fail
      have Lkp4 := lt_size kp4
      have Lkp8 := lt_size kp8
      refine wp_pass0 (C := fun _ _ _ => False) (κ := fun i => [1, 0, 1, 3, 5, 6].getD i 0) [0, 1, 2, 3, 4, 5] (by kernel_rfl) (by kernel_rfl) (fun _ _ d _ _ h => by cases d <;> first | exact h | exact absurd h (hP _ _ _)) ?_
      iterate 3 first | (refine TD.load (v := ?_) (p := ?_) (Mod.refl _ _) (by simp only [zK]; rfl) rfl (by rfl) rfl ?_ (fun wq hSq => ?_) ?_; rotate_left 2; (next => simp only [zM]; try rfl); (next => have kp4q := hSq.at kp4 (fun h => h); have kp8q := hSq.at kp8 (fun h => h); go_simp; try with_reducible rfl); try simp only [zL]) | (refine TD.val0 (v := ?_) (by simp only [zK]; rfl) rfl (by rfl) (fun w1 => ?_) ?_; rotate_left; (next => go_simp; try with_reducible rfl); try simp only [zL])
      (refine TD.bslice (by simp only [zK]; rfl) rfl (by rfl) rfl rfl ?hx129 hbp (fun p64 hp64 => ?n129); (case hx129 => (simp only [List.map_toArray, List.map_cons, List.map_nil, zM]; (try rfl))); try simp only [zL])
      refine TD.eff (by simp only [zK]; rfl) rfl (fun wp hr => ?_)
      replace kp4 := hr.mod.at kp4 (fun h => h)
      replace kp8 := hr.mod.at kp8 (fun h => h)
      have kp64 := hr.box p64 _ (by first | exact Bx.set_same _ _ _ | (simp only [Bx.set_same]; rfl)); dsimp only [Value.cells] at kp64; obtain ⟨gp64, kp64⟩ := kp64
      have HMP := Lib.hid hr.mod
      obtain ⟨v2, wx, ⟨a2, q2, c2, rfl⟩, hap1, hap, k2, hfin⟩ := LyS.app 1 1 (HS.out.mod0 hr.mod) (SlAt.one kp64 y.p rfl rfl) rfl (by have := fm_le (fun y => putI (inP y)) x.ins.l i; have := HLEN.out.2.1; have := HP2.out; simp only [List.length_append, List.length_cons, List.length_nil]; omega) 170
      have HFN := Lib.hid hfin
      clear hr hfin kp4 kp1
      have kp4 := k2
      clear k2
      (refine eff_append (by simp only [zK]; rfl) (by rfl) rfl ?hx131 ?hz131 hap1 ?n131; (case hx131 => simp only [zM]; try rfl); (case hz131 => simp only [zM]; try rfl); try simp only [zL])
      refine TE.step (by simp only [zK]; rfl) rfl ?_
      (refine eff_store (X := ?X132) (Y := ?Y132) (w' := ?w132) (by simp only [zK]; rfl) (by rfl) rfl ?hx132 ?hz132 ?y132 ?n132; (case hx132 => simp only [zM]; try rfl); (case hz132 => simp only [zM]; try rfl); (case y132 => go_simp; try with_reducible rfl))
      (first | refine TE.nil_set kp4 (fun wn kp4 mS => ?_) | refine TE.nil_setCell kp4 (fun wn kp4 mS => ?_))
      (try simp only [Array.setIfInBounds, zL] at kp4)
      have HLY := Lib.hid (HFN.out _ mS kp4)
      have HS := Lib.hid HLY.out.1
      clear mS HFN kp4 hap1 hap
      obtain ⟨wy, rfl⟩ : ∃ wy : World, wy = wn := ⟨_, rfl⟩
      have hx := HLY.out.2.at kp8 HNE.out.1 HNE.out.2
      clear kp8
      have kp8 := hx.1
      have HNE := Lib.hid (And.intro HNE.out.1 hx.2)
      clear hx
      have kp4 := HS.out.g.1
      have kp1 := HS.out.k1
      go_upto_region 19 with fail
      go_wp2_with fail
      go_at_call 107
      refine (list_c (c := y.a.c) _ HS.out.g HY.out.2.1.1.1 HS.out.m (by have := HS.out.lt; omega) HY.out.2.2.1 (by have := fm_le (fun y => putI (inP y)) x.ins.l i; have := HLEN.out.2.1; have := HP2.out; simp only [List.length_append, List.length_cons, List.length_nil]; omega) HS.out.lt.2.2).mono ?_
      rintro e wl ⟨rfl, v4, hG4, hC4⟩
      have HS := Lib.hid (HS.out.step hG4 hC4)
      have hx := hC4.at kp8 HNE.out.1 HNE.out.2
      clear kp8 hC4 hG4 kp4 kp1
      have kp8 := hx.1
      have HNE := Lib.hid (And.intro HNE.out.1 hx.2)
      clear hx
      have kp4 := HS.out.g.1
      have kp1 := HS.out.k1
      go_upto_region 20 with fail
      go_wp2_with fail
      go_at_call 107
      refine (list_c (c := y.d.c) _ HS.out.g HY.out.2.1.2.1 HS.out.m (by have := HS.out.lt; omega) HY.out.2.2.2 (by have := fm_le (fun y => putI (inP y)) x.ins.l i; have := HLEN.out.2.1; have := HP2.out; have := lis_le y.a.l HY.out.2.2.1; simp only [List.length_append, List.length_cons, List.length_nil]; omega) HS.out.lt.2.2).mono ?_
      rintro e wl ⟨rfl, v4, hG4, hC4⟩
      have HS := Lib.hid (HS.out.step hG4 hC4)
      have hx := hC4.at kp8 HNE.out.1 HNE.out.2
      clear kp8 hC4 hG4 kp4 kp1
      have kp8 := hx.1
      have HNE := Lib.hid (And.intro HNE.out.1 hx.2)
      clear hx
      have HS := Lib.hid (show LyS w p4 p1 (p4 + 1) v4 (P2 ++ (x.ins.l.take (i + 1)).flatMap (fun y => putI (inP y))) _ wl by
       have e : P2 ++ (x.ins.l.take (i + 1)).flatMap (fun y => putI (inP y)) = P2 ++ (x.ins.l.take i).flatMap (fun y => putI (inP y)) ++ [y.p] ++ lisP y.a.l ++ lisP y.d.l := by
        rw [fm_snoc HY.out.1]
        simp only [putI, inP, List.append_assoc, List.cons_append, List.nil_append]
       rw [e]
       exact HS.out)
      clear kp8
      go_wp2_with fail
      go_roundw
      case rel => exact ⟨i + 1, _, by omega, by go_num, HS⟩
      case measure => simp [intOf]; omega
     ·have hd := decide_eq_false hlt
      obtain rfl : n2 = i := by omega
      rw [show x.ins.l.take n2 = x.ins.l from List.take_of_length_le (by have := HN.out; omega)] at HS
      clear hi hlt
      have kp1 := HS.out.k1
      go_upto_region 22 with fail
      have Lkp1 := lt_size kp1
      refine wp_pass0 (C := fun _ _ _ => False) (κ := fun i => [0, 1].getD i 0) [0, 1] (by kernel_rfl) (by kernel_rfl) (fun _ _ d _ _ h => by cases d <;> first | exact h | exact absurd h (hP _ _ _)) ?_
      (refine TD.val0 (v := ?_) (by simp only [zK]; rfl) rfl (by rfl) (fun w1 => ?_) ?_; rotate_left; (next => go_simp; try with_reducible rfl); try simp only [zL])
      (refine TD.load (v := ?_) (p := ?_) (Mod.refl _ _) (by simp only [zK]; rfl) rfl (by rfl) rfl ?_ (fun wq hSq => ?_) ?_; rotate_left 2; (next => simp only [zM]; try rfl); (next => have kp1q := hSq.at kp1 (fun h => h); go_simp; try with_reducible rfl); try simp only [zL])
      refine TD.nil (fun w11 hr => ?_)
      replace kp1 := hr.mod.at kp1 (fun h => h)
      have HS := Lib.hid (HS.out.mod0 hr.mod)
      clear hr kp1
      have hB : (P2 ++ x.ins.l.flatMap (fun y => putI (inP y))) = PM := by
       rw [HPUT.out, HE2.out, HE1.out]; simp
      rw [hB] at HS
      obtain ⟨a, c, rfl, hcl, hN⟩ := clip_newL HS.out.g.2.1
      obtain ⟨k, hk⟩ : ∃ k, PM.length = k := ⟨_, rfl⟩
      have kp4 := HS.out.g.1
      rw [hk] at kp4 hcl
      have HF := Lib.hid (And.intro hN (And.intro hk (And.intro HS.out.m HS.out.lt)))
      clear hB hN hk
      go_upto_region 31 with fail
      have Lkp4 := lt_size kp4
      refine wp_pass0 (C := fun _ _ v => v = .slice a k k) (κ := fun i => [1, 2, 0, 0].getD i 0) [0, 1, 2, 3] (by kernel_rfl) (by kernel_rfl) (fun _ _ d _ _ h => by cases d <;> first | exact h | exact absurd h (hP _ _ _)) ?_
      (refine TD.load (v := ?_) (p := ?_) (Mod.refl _ _) (by simp only [zK]; rfl) rfl (by rfl) rfl ?_ (fun wq hSq => ?_) ?_; rotate_left 2; (next => simp only [zM]; try rfl); (next => have kp4q := hSq.at kp4 (fun h => h); go_simp; try with_reducible rfl); try simp only [zL])
      (refine TD.call (f := ?f136) (args := ?r136) (Mod.refl _ _) (by simp only [zK]; rfl) rfl (by rfl) (fun w1 => ?y136) ?hsp136 ?n136; (case y136 => (go_simp; (first | with_reducible rfl | (constructor <;> with_reducible rfl)))); (case hsp136 => (intro wq hSq; have kp4q := hSq.at kp4 (fun h => h); exact (clipLay_c _ _ _ hcl).mono (fun e w' h => ⟨_, h.1, rfl, by rw [h.2]; exact Mod.refl _ _⟩))); rintro _ hC; subst hC; try simp only [zL])
      iterate 2 (refine TD.val0 (v := ?_) (by simp only [zK]; rfl) rfl (by rfl) (fun w1 => ?_) ?_; rotate_left; (next => go_simp; try with_reducible rfl); try simp only [zL])
      refine TD.nil (fun wz hr => ?_)
      replace kp4 := hr.mod.at kp4 (fun h => h)
      have HMZ := Lib.hid hr.mod
      clear hr hcl
      go_wp2_with fail
      go_ret2
      refine ⟨a, ?_, (HF.out.1.base (by have := HF.out.2.2.2; omega)).mod0 HMZ.out, HF.out.2.2.1.then0 HMZ.out⟩
      rw [HF.out.2.1]
      rfl
end Go.Proofs.YtiaehkkkcaeaiaaGreatDoor
namespace Go.Proofs.YtiaehkkkcaeaiaaGreatDoor
open Go.RowKit
open Go.ChangeMaps (setBlock)
attribute [local go_sem ↓] wlKey ldKey stKey ldSg stSg wlTc ldTc stTc eqKey1
attribute [local go_sem] cell_blk frozen_blk kc_ext one_int one_bool one_ptr one_slice one_map kc_one kc_one0 kc_size zKey_size sgc_size sgc_ext sgc_one0 sgc_one' txr_size txr_all txr_one txr_one' txr0 txr38 txr39 txr0' txr38' txr39' zTx_size Value.cells
attribute [local go_sem ↓] wlMsg ldMsg stMsg
attribute [local go_sem] txr_ms zSg_size
theorem NewS.offB {b : Nat} {w : World} {v : Value} {l : List UInt8} (h : NewS uc 1 5 b w v l) (hl : l.length ≤ 1000000) : SlOff uc 1 5 w b v l := by
 rcases h with h | ⟨g, cur, rfl, hb, hg, hc⟩
 ·exact .inl h
 ·refine .inr ⟨g, 0, l.length, cur, rfl, hb, hg, Nat.le_refl _, by unfold maxLen; omega, fun hp => ?_, ?_⟩
  ·obtain ⟨x, hx⟩ : ∃ x, l[l.length - 1]? = some x := ⟨_, List.getElem?_eq_getElem (by omega)⟩
   have := (hc _ x hx).2
   omega
  ·rw [List.drop_zero, Nat.mul_one]
   apply List.ext_getElem?
   intro i
   by_cases hi : i < l.length
   ·obtain ⟨x, hx⟩ : ∃ x, l[i]? = some x := ⟨_, List.getElem?_eq_getElem hi⟩
    obtain ⟨h1, h2⟩ := hc i x hx
    rw [List.getElem?_take_of_lt hi]
    have h3 := cellsOf_get (f := uc) (n := 1) (fun _ => rfl) l i x hx
    rw [Nat.mul_one] at h1 h2 h3
    have h4 : (cellsOf uc l)[i]? = some (u8v x) := by
     have h5 := congrArg (fun L => L[0]?) h3
     simp only [List.getElem?_take_of_lt (show 0 < 1 by decide), List.getElem?_drop, Nat.add_zero] at h5
     rw [h5]
     rfl
    have h6 : cur[i]? = some (u8v x) := by
     have h5 := congrArg (fun C => C[0]?) h1
     simp only [Array.getElem?_extract] at h5
     rw [if_pos (by omega)] at h5
     simpa [uc] using h5
    rw [h4]
    simpa using h6
   ·rw [List.getElem?_eq_none (by rw [List.length_take]; omega), List.getElem?_eq_none (by rw [cellsOf_len (n := 1) (fun _ => rfl)]; omega)]
theorem ssig (p : Nat) (w : World) : (Instr.sliceAt 101 (.pointer (some ⟨p, 0, none⟩)) none none none).run Tryz.prog w = .ok (.slice (some ⟨p, 0, none⟩) 64 64) w := by kernel_rfl
theorem offClip {w : World} {b : Nat} {v : Value} {l : List UInt8} (h : SlOff uc 1 5 w b v l) : ∃ a c, v = .slice a l.length c ∧ (∀ w2, (Instr.sliceAt 22 (.slice a l.length c) none (some (.int .i64 (l.length : Int))) (some (.int .i64 (l.length : Int)))).run Tryz.prog w2 = .ok (.slice a l.length l.length) w2) ∧ SlAt uc 1 w a l := by
 obtain ⟨a, c, e, hs, _⟩ := h.at bytesT
 rcases h with ⟨rfl, rfl⟩ | ⟨g, o, cap, cur, rfl, hb, hg, hn, _⟩
 ·injection e with e1 e2 e3
  subst e1 e3
  exact ⟨none, 0, rfl, fun w2 => sl_clip0 bytesT w2, hs⟩
 ·injection e with e1 e2 e3
  subst e1 e3
  exact ⟨_, _, rfl, fun w2 => sl_clip bytesT hn w2, hs⟩
theorem sig_bytes {w : World} {g : Nat} {U : TypeId} {fr : Nat × Nat} {k : Sg} (hk : w.heap[g]? = some (.cells (sgc k) U fr)) : SlAt uc 1 w (some ⟨g, 0, none⟩) k.l := bytes_at hk (by rw [k.h]; exact sgc_ext k)
structure PkS (w0 : World) (am : Option Addr) (mk : Nat) (M : List UInt8) (v : Value) (B : List UInt8) (w : World) : Prop where
 o : SlOff uc 1 5 w w0.heap.size v B
 n : NewS uc 1 5 w0.heap.size w (.slice am mk mk) M
 a : ∀ g, (Value.slice am mk mk).ownBlock = some g → v.ownBlock ≠ some g
 m : Mod (fun _ => False) w0 w
theorem PkS.mod0 {w0 : World} {am : Option Addr} {mk : Nat} {M : List UInt8} {v : Value} {B : List UInt8} {w w' : World} (h : PkS w0 am mk M v B w) (hm : Mod (fun _ => False) w w') : PkS w0 am mk M v B w' := ⟨h.o.mod0 hm, h.n.mod0 hm, h.a, h.m.then0 hm⟩
theorem PkS.app {w0 : World} {am : Option Addr} {mk : Nat} {M : List UInt8} {v : Value} {B q : List UInt8} {w : World} {a : Option Addr} (n c : Nat) (h : PkS w0 am mk M v B w) (hq : SlAt uc 1 w a q) (hn : q.length = n) (hl : B.length + q.length ≤ 1000000) :
  ∃ v' w', (Builtin.append_ #[22, 22] 22 #[v, .slice a n c]).run Tryz.prog w = .ok v' w' ∧ PkS w0 am mk M v' (B ++ q) w' := by
 subst hn
 obtain ⟨v', w', h1, h2, h3, h4⟩ := SlOff.append bytesT (c := c) h.o hq hl (by decide) h.m.size 22
 refine ⟨v', w', h1, h2, h.n.mod h3 (fun g hg e => h.a g hg e), fun g hg e => ?_, h.m.then h3 (fun i hi e => ?_)⟩
 ·rcases h4 g e with h5 | h5
  ·exact h.a g hg h5
  ·have := (h.n.lt g hg).2
   omega
 ·have := (h.o.lt i e).1
  omega
set_option maxRecDepth 20000 in
set_option maxHeartbeats 6400000 in
theorem pput_c (x : RdR) (w : World) (hR : TxRd w x) (hB : TxB (txP x)) (hv : x.v0 = true ∨ (x.lks.l.length = 0 ∧ x.h0.toNat < 128)) (ht : (putT (txP x)).length ≤ 1232) :
  Calls Tryz.prog 23 #[.agg (txr x)] w fun e w' => ∃ a, e = .returned (.tuple #[.slice a (putT (txP x)).length (putT (txP x)).length, .int .i64 0]) ∧ SlAt uc 1 w' a (putT (txP x)) ∧ Mod (fun _ => False) w w' := by
 have hput : putT (txP x) = shP x.sg.l.length ++ (x.sg.l.flatMap (·.l) ++ putM (msgP x)) := rfl
 have HX := Lib.hid hR
 have hlen : (x.sg.l.flatMap (·.l)).length ≤ 1232 ∧ (putM (msgP x)).length ≤ 1232 := by
  rw [hput] at ht
  simp only [List.length_append] at ht
  omega
 have HMP := Lib.hid (fun w1 (hm : Mod (fun _ => False) w w1) => mput_c x w1 (hR.2.mod0 hm) hB.2 hv (by have := hlen.2; omega))
 have HB := Lib.hid hB
 obtain ⟨n, hn⟩ : ∃ n, x.sg.l.length = n := ⟨_, rfl⟩
 obtain ⟨M, hM⟩ : ∃ M, putM (msgP x) = M := ⟨_, rfl⟩
 obtain ⟨mk, hmk⟩ : ∃ mk, M.length = mk := ⟨_, rfl⟩
 obtain ⟨PT, hPT⟩ : ∃ PT, putT (txP x) = PT := ⟨_, rfl⟩
 rw [hM, hmk] at HMP
 rw [hPT] at hput ht ⊢
 rw [hM, hn] at hput
 rw [hM, hmk] at hlen
 have HL := Lib.hid (And.intro hlen (And.intro hmk (And.intro hn (And.intro hput ht))))
 have hnl : n ≤ 65535 := by have := hB.1; simp only [txP] at this; omega
 have HNL := Lib.hid hnl
 have hs0 : (txr x)[0]? = some (.slice x.sg.a n x.sg.c) := by rw [txr0, hn]
 have hs0' : ∀ h : 0 < (txr x).size, (txr x)[0] = .slice x.sg.a n x.sg.c := fun h => at_get hs0 h
 clear hR hB hv ht hput hlen hn hM hmk hPT
 go_enter Tryz.func23, Tryz.ntmps23
 go_upto_region 0 with fail
 refine wp_pass0 (C := fun _ _ _ => False) (κ := fun i => [3, 0, 0].getD i 0) [0, 1, 2] (by kernel_rfl) (by kernel_rfl) (fun _ _ d _ _ h => by cases d <;> first | exact h | exact absurd h (hP _ _ _)) ?_
 (refine TD.box (v := ?v1) (by simp only [zK]; rfl) rfl (by rfl) rfl rfl ?hx1 (fun p1 hp1 => ?n1); (case hx1 => simp only [zM]; try rfl); try simp only [zL])
 iterate 2 (refine TD.val0 (v := ?_) (by simp only [zK]; rfl) rfl (by rfl) (fun w1 => ?_) ?_; rotate_left; (next => go_simp; try with_reducible rfl); try simp only [zL])
 refine TD.nil (fun w1 hr => ?_)
 have kp1 := hr.box p1 _ (by first | exact Bx.set_same _ _ _ | (simp only [Bx.set_same]; rfl)); dsimp only [Value.cells] at kp1; obtain ⟨gp1, kp1⟩ := kp1
 have HM1 := Lib.hid hr.mod
 clear hr
 go_upto_region 1 with fail
 go_wp2_with fail
 go_at_call 64
 refine (putShort_c n HNL.out _).mono ?_
 rintro e w2 ⟨a, rfl, hN, m2⟩
 have HO : Hid (SlOff uc 1 5 w2 w.heap.size _ (shP n)) := Lib.hid ((hN.base HM1.out.size).offB (by have := shP_le n; omega))
 have HM2 := Lib.hid (HM1.out.then0 m2)
 replace kp1 := m2.at0 kp1
 have HL2 := Lib.hid (hN.lt)
 clear hN m2
 have hG4 := HMP.out w2 HM2.out
 go_upto_region 4 with fail
 refine region_seq 8 rfl ?_
 simp only [List.range, List.range.loop]
 (refine sq_val (v := ?_) (by simp only [zK]; rfl) (by rfl) ?_ ?_; rotate_left; (next => go_simp; try with_reducible rfl); try simp only [zL])
 (refine sq_load (v := ?v5) (p := ?p5) (by simp only [zK]; rfl) (by rfl) rfl ?hx5 ?y5 ?n5; (case hx5 => simp only [zM]; try rfl); (case y5 => go_simp; try with_reducible rfl); try simp only [zL])
 (refine sq_callT (by simp only [zK]; rfl) (by rfl) ?y6 hG4 ?hout (fun vn wn hR => ?hret) (fun ch wn hR => ?hpan); (case y6 => (go_simp; (try (first | with_reducible rfl | (constructor <;> with_reducible rfl))))))
 case hout =>
  rintro w' ⟨_, h, _⟩
  cases h
 case hpan =>
  obtain ⟨_, h, _⟩ := hR
  cases h
 case hret =>
 obtain ⟨am, e0, hN, m3⟩ := hR
 cases e0
 have HS : Hid (PkS w am mk M (.slice a (shP n).length (shP n).length) (shP n) wn) := Lib.hid ⟨HO.out.mod0 m3, hN.base HM2.out.size, fun g hg e => by have h1 := (hN.lt g hg).1; have h2 := (HL2.out g e).2; omega, HM2.out.then0 m3⟩
 replace kp1 := m3.at0 kp1
 clear hN m3 hG4
 (try simp only [zL])
 iterate 5 (refine sq_val (v := ?_) (by simp only [zK]; rfl) (by rfl) ?_ ?_; rotate_left; (next => go_simp; try with_reducible rfl); try simp only [zL])
 refine sq_nil ?_
 obtain ⟨w3, rfl⟩ : ∃ w3 : World, w3 = wn := ⟨_, rfl⟩
 go_upto_region 7 with fail
 have Lkp1 := lt_size kp1
 refine wp_pass0 (C := fun _ _ _ => False) (κ := fun i => [0, 1, 0, 0].getD i 0) [0, 1, 2, 3] (by kernel_rfl) (by kernel_rfl) (fun _ _ d _ _ h => by cases d <;> first | exact h | exact absurd h (hP _ _ _)) ?_
 iterate 4 first | (refine TD.val0 (v := ?_) (by simp only [zK]; rfl) rfl (by rfl) (fun w1 => ?_) ?_; rotate_left; (next => go_simp; try with_reducible rfl); try simp only [zL]) | (refine TD.load (v := ?_) (p := ?_) (Mod.refl _ _) (by simp only [zK]; rfl) rfl (by rfl) rfl ?_ (fun wq hSq => ?_) ?_; rotate_left 2; (next => simp only [zM]; try rfl); (next => have kp1q := hSq.at kp1 (fun h => h); go_simp; try with_reducible rfl); try simp only [zL])
 refine TD.nil (fun w4 hr => ?_)
 replace kp1 := hr.mod.at kp1 (fun h => h)
 have HS := Lib.hid (HS.out.mod0 hr.mod)
 clear hr kp1 hs0 hs0'
 obtain ⟨v0, hv0⟩ : ∃ v0, Value.slice a (shP n).length (shP n).length = v0 := ⟨_, rfl⟩
 rw [hv0] at HS ⊢
 clear hv0
 go_wp2_with fail
 go_loopw [4, 31] (fun s4 s31 ws => ∃ i : Nat, i ≤ n ∧ s31 = .int .i64 (i : Int) ∧ Hid (PkS w am mk M s4 (shP n ++ (x.sg.l.take i).flatMap (·.l)) ws)) (fun _ s31 _ => n - (intOf s31).toNat)
 case atStart => exact ⟨0, Nat.zero_le _, rfl, by simpa using HS⟩
 case round =>
  clear HS
  obtain ⟨i, hi, rfl, HS⟩ := hrel
  by_cases hlt : i < n
  ·have hd := decide_eq_true hlt
   obtain ⟨y, hy⟩ : ∃ y, x.sg.l[i]? = some y := ⟨_, List.getElem?_eq_getElem (by have := HL.out.2.2.1; omega)⟩
   obtain ⟨g, o, C, U, fr, hga, kg, he, hle⟩ := (HX.out.1.1.mod0 HS.out.m).block hy
   have HY := Lib.hid hy
   clear hy
   go_upto_region 9 with fail
   have Lkg := lt_size kg
   refine wp_pass0 (C := fun _ _ _ => False) (κ := fun i => [0, 1, 3, 4].getD i 0) [0, 1, 2, 3] (by kernel_rfl) (by kernel_rfl) (fun _ _ d _ _ h => by cases d <;> first | exact h | exact absurd h (hP _ _ _)) ?_
   (refine TD.val0 (v := ?_) (by simp only [zK]; rfl) rfl (by rfl) (fun w1 => ?_) ?_; rotate_left; (next => go_simp; try with_reducible rfl); try simp only [zL])
   (refine TD.load (v := ?_) (p := ?_) (Mod.refl _ _) (by simp only [zK]; rfl) rfl (by rfl) rfl ?_ (fun wq hSq => ?_) ?_; rotate_left 2; (next => simp only [zM]; try rfl); (next => have kgq := hSq.at kg (fun h => h); go_simp; try with_reducible rfl); try simp only [zL])
   (refine TD.allocB (by simp only [zK]; rfl) rfl (by rfl) rfl rfl alSg (fun p8 hp8 => ?n18); try simp only [zL])
   (refine TD.storeB (d := ?d19) (T := ?T19) (y := ?y19) (p := ?p19) (b := ?b19) (v := ?v19) (by simp only [zK]; rfl) rfl (by rfl) ?hd19 ?hop19 ?hev19 ?hx19 ?hb19 ?htag19 (fun w1 hb1 => ?hy19) ?hn19; (case hd19 => rfl); (case hop19 => rfl); (case hev19 => (simp only [zM]; (try rfl))); (case hx19 => simp only [zM]; try rfl); (case hb19 => first | exact Bx.set_same _ _ _ | (simp only [Bx.set_same]; rfl)); (case hy19 => (go_simp; (try first | with_reducible rfl | (rw [setCell_blk hb1]; rfl)))); try simp only [zL])
   refine TD.nil (fun w9 hr => ?_)
   replace kg := hr.mod.at kg (fun h => h)
   have kp8 := hr.box p8 _ (by first | exact Bx.set_same _ _ _ | (simp only [Bx.set_same]; rfl)); dsimp only [Value.cells] at kp8; obtain ⟨gp8, kp8⟩ := kp8
   have HS := Lib.hid (HS.out.mod0 hr.mod)
   clear hr he hle kg hga
   have hsg := ssig p8
   go_upto_region 10 with fail
   have Lkp8 := lt_size kp8
   refine wp_pass0 (C := fun _ _ _ => False) (κ := fun i => [0, 0, 5, 0].getD i 0) [0, 1, 2, 3] (by kernel_rfl) (by kernel_rfl) (fun _ _ d _ _ h => by cases d <;> first | exact h | exact absurd h (hP _ _ _)) ?_
   (refine TD.val0 (v := ?_) (by simp only [zK]; rfl) rfl (by rfl) (fun w1 => ?_) ?_; rotate_left; (next => go_simp; try with_reducible rfl); try simp only [zL])
   (refine TD.slice (by simp only [zK]; rfl) rfl (by rfl) rfl ?hs21 ?hl21 ?hh21 ?hm21 hsg ?n21; (case hs21 => simp only [zM]; try rfl); (case hl21 => first | rfl | (simp only [Option.map_some, zM]; (try rfl))); (case hh21 => first | rfl | (simp only [Option.map_some, zM]; (try rfl))); (case hm21 => rfl); try simp only [zL])
   refine TD.eff (by simp only [zK]; rfl) rfl (fun w10 hr => ?_)
   replace kp8 := hr.mod.at kp8 (fun h => h)
   have HS := Lib.hid (HS.out.mod0 hr.mod)
   obtain ⟨v2, w11, hap, hS⟩ := HS.out.app 64 64 (sig_bytes kp8) y.h (by have := fm_le (fun k : Sg => k.l) x.sg.l i; have := HL.out.1.1; have := shP_le n; have := y.h; simp only [List.length_append]; omega)
   have HS2 : Hid (PkS w am mk M v2 (shP n ++ (x.sg.l.take (i + 1)).flatMap (·.l)) w11) := Lib.hid (by rw [fm_snoc HY.out, ← List.append_assoc]; exact hS)
   clear hr hS kp8 hsg
   (refine eff_append (by simp only [zK]; rfl) (by rfl) rfl ?hx23 ?hz23 hap ?n23; (case hx23 => simp only [zM]; try rfl); (case hz23 => simp only [zM]; try rfl); try simp only [zL])
   (refine TE.val0 (v := ?v24) (by simp only [zK]; rfl) (by rfl) (fun w1 => ?y24) ?n24; (case y24 => go_simp; try with_reducible rfl); try simp only [zL])
   refine TE.nil ?_
   clear hap
   go_wp2_with fail
   go_roundw
   case rel => exact ⟨i + 1, by omega, by go_num, HS2⟩
   case measure => simp [intOf]; omega
  ·have hd := decide_eq_false hlt
   obtain rfl : n = i := by omega
   rw [show x.sg.l.take n = x.sg.l from List.take_of_length_le (by have := HL.out.2.2.1; omega)] at HS
   clear hi hlt
   go_upto_region 12 with fail
   refine wp_pass0 (C := fun _ _ _ => False) (κ := fun i => [0, 0, 5, 0].getD i 0) [0, 1, 2, 3] (by kernel_rfl) (by kernel_rfl) (fun _ _ d _ _ h => by cases d <;> first | exact h | exact absurd h (hP _ _ _)) ?_
   iterate 2 (refine TD.val0 (v := ?_) (by simp only [zK]; rfl) rfl (by rfl) (fun w1 => ?_) ?_; rotate_left; (next => go_simp; try with_reducible rfl); try simp only [zL])
   refine TD.eff (by simp only [zK]; rfl) rfl (fun w10 hr => ?_)
   have HS := Lib.hid (HS.out.mod0 hr.mod)
   obtain ⟨v2, w11, hap, hS⟩ := HS.out.app mk mk (ns_rd HS.out.n) HL.out.2.1 (by have := HL.out.1; have := shP_le n; have := HL.out.2.1; simp only [List.length_append]; omega)
   have hB : shP n ++ x.sg.l.flatMap (·.l) ++ M = PT := by rw [HL.out.2.2.2.1, List.append_assoc]
   rw [hB] at hS
   obtain ⟨k, hk⟩ : ∃ k, PT.length = k := ⟨_, rfl⟩
   obtain ⟨ab, cb, rfl, hcl, hat⟩ := offClip hS.o
   rw [hk] at hcl hap
   have HF := Lib.hid (And.intro hat (And.intro hk hS.m))
   have hkl : decide ((k : Int) > 1232) = false := decide_eq_false (by have := HL.out.2.2.2.2; omega)
   have hkl2 : decide ((1232 : Int) < (k : Int)) = false := decide_eq_false (by have := HL.out.2.2.2.2; omega)
   have hkl3 : decide (1232 < k) = false := decide_eq_false (by have := HL.out.2.2.2.2; omega)
   have HCL := Lib.hid hcl
   clear hr hS hB hk hcl hat
   (refine eff_append (by simp only [zK]; rfl) (by rfl) rfl ?hx28 ?hz28 hap ?n28; (case hx28 => simp only [zM]; try rfl); (case hz28 => simp only [zM]; try rfl); try simp only [zL])
   (refine TE.val0 (v := ?v29) (by simp only [zK]; rfl) (by rfl) (fun w1 => ?y29) ?n29; (case y29 => go_simp; try with_reducible rfl); try simp only [zL])
   refine TE.nil ?_
   clear hap
   go_wp2_with fail
   go_at_call 39
   refine (clipY_c _ _ _ HCL.out).mono ?_
   rintro e wz ⟨rfl, rfl⟩
   go_wp2_with fail
   go_ret2
   refine ⟨ab, ?_, HF.out.1, HF.out.2.2⟩
   rw [HF.out.2.1]
   rfl
end Go.Proofs.YtiaehkkkcaeaiaaGreatDoor
