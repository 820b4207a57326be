/- The walks of maps.EqualFunc, maps.Clone, Same, Copy; what they ask of a store that is not there. -/
import Derived.Test.YtknmiojegnbakaaMade
namespace Go.Proofs.Ytknmiojegnbakaa
open Go.RowKit
open Go.ChangeMaps (setBlock)
set_option linter.unusedSimpArgs false
set_option linter.unusedVariables false
attribute [local go_sem ↓] wlKey ldKey stKey wlAcct ldAcct stAcct wlHold ldHold stHold eqKey1 eqAcct eqHold
attribute [local go_sem] eqMap neMap av_size av_c av_s av_c' av_s' av_o av_all av_one hd_size hd_key hd_acct hd_all hd_one zKey_size zAcct_size zHold_size cell_blk frozen_blk kc_ext one_int one_bool one_ptr one_slice one_map kc_one kc_one0 kc_size Value.cells
theorem same1_c (a b : Acct) (w : World) : Calls Try.prog 33 #[.agg (av a), .agg (av b)] w fun e w' => e = .returned (.bool (decide (a = b))) ∧ Mod (fun _ => False) w w' := by
  go_enter Try.func33, Try.ntmps33
  go_upto_region 0 with fail
  refine wp_pass0 (C := fun _ _ _ => False) (κ := fun i => [3, 3, 0].getD i 0) [0, 1, 2] (by kernel_rfl) (by kernel_rfl) (fun _ _ d _ _ h => by cases d <;> exact h) ?_
  (refine TD.box (v := ?v1) (by simp only [List.getElem?_toArray, List.getElem?_cons_succ, List.getElem?_cons_zero]; rfl) rfl ?hw1 rfl rfl ?hx1 (fun p2 hp2 => ?hn1); (case hw1 => rfl); (case hx1 => (simp only [Act.eval, Array.getD_eq_getD_getElem?, List.getElem?_toArray, List.getElem?_cons_succ, List.getElem?_cons_zero, Option.getD_some]; (try rfl))); (try simp only [Act.put, List.setIfInBounds_toArray, List.set_cons_zero, List.set_cons_succ]))
  (refine TD.box (v := ?v2) (by simp only [List.getElem?_toArray, List.getElem?_cons_succ, List.getElem?_cons_zero]; rfl) rfl ?hw2 rfl rfl ?hx2 (fun p3 hp3 => ?hn2); (case hw2 => rfl); (case hx2 => (simp only [Act.eval, Array.getD_eq_getD_getElem?, List.getElem?_toArray, List.getElem?_cons_succ, List.getElem?_cons_zero, Option.getD_some]; (try rfl))); (try simp only [Act.put, List.setIfInBounds_toArray, List.set_cons_zero, List.set_cons_succ]))
  obtain ⟨ne_p3_p2, hp3⟩ := Bx.set_none hp3
  (refine TD.val0 (v := ?v3) (by simp only [List.getElem?_toArray, List.getElem?_cons_succ, List.getElem?_cons_zero]; rfl) rfl ?hw3 (fun w1 => ?hy3) ?hn3; (case hw3 => rfl); (case hy3 => (go_simp; (try with_reducible rfl))); (try simp only [Act.put, List.setIfInBounds_toArray, List.set_cons_zero, List.set_cons_succ]))
  refine TD.nil (fun w1 hr => ?_)
  have kp2 := hr.box p2 _ (by first | exact Bx.set_same _ _ _ | (simp only [Bx.set_ne _ (Ne.symm ne_p3_p2), Bx.set_ne _ ne_p3_p2, Bx.set_same]; rfl)); dsimp only [Value.cells] at kp2; obtain ⟨gp2, kp2⟩ := kp2
  have kp3 := hr.box p3 _ (by first | exact Bx.set_same _ _ _ | (simp only [Bx.set_ne _ (Ne.symm ne_p3_p2), Bx.set_ne _ ne_p3_p2, Bx.set_same]; rfl)); dsimp only [Value.cells] at kp3; obtain ⟨gp3, kp3⟩ := kp3
  have m1 := hr.mod
  go_upto_region 1 with fail
  have Lkp2 := lt_size kp2
  have Lkp3 := lt_size kp3
  refine wp_pass0 (C := fun _ _ _ => False) (κ := fun i => [1, 1, 0, 0].getD i 0) [0, 1, 2, 3] (by kernel_rfl) (by kernel_rfl) (fun _ _ d _ _ h => by cases d <;> exact h) ?_
  (refine TD.load (v := ?v4) (p := ?p4) (Mod.refl _ _) (by simp only [List.getElem?_toArray, List.getElem?_cons_succ, List.getElem?_cons_zero]; rfl) rfl ?hw4 rfl ?hx4 (fun wq hSq => ?hy4) ?hn4; (case hw4 => rfl); (case hx4 => (simp only [Act.eval, Array.getD_eq_getD_getElem?, List.getElem?_toArray, List.getElem?_cons_succ, List.getElem?_cons_zero, Option.getD_some]; (try rfl))); (case hy4 => (have kp2q := hSq.at kp2 (fun h => h); have kp3q := hSq.at kp3 (fun h => h); go_simp; (try with_reducible rfl))); (try simp only [Act.put, List.setIfInBounds_toArray, List.set_cons_zero, List.set_cons_succ]))
  (refine TD.load (v := ?v5) (p := ?p5) (Mod.refl _ _) (by simp only [List.getElem?_toArray, List.getElem?_cons_succ, List.getElem?_cons_zero]; rfl) rfl ?hw5 rfl ?hx5 (fun wq hSq => ?hy5) ?hn5; (case hw5 => rfl); (case hx5 => (simp only [Act.eval, Array.getD_eq_getD_getElem?, List.getElem?_toArray, List.getElem?_cons_succ, List.getElem?_cons_zero, Option.getD_some]; (try rfl))); (case hy5 => (have kp2q := hSq.at kp2 (fun h => h); have kp3q := hSq.at kp3 (fun h => h); go_simp; (try with_reducible rfl))); (try simp only [Act.put, List.setIfInBounds_toArray, List.set_cons_zero, List.set_cons_succ]))
  (refine TD.val0 (v := ?v6) (by simp only [List.getElem?_toArray, List.getElem?_cons_succ, List.getElem?_cons_zero]; rfl) rfl ?hw6 (fun w1 => ?hy6) ?hn6; (case hw6 => rfl); (case hy6 => (go_simp; (try with_reducible rfl))); (try simp only [Act.put, List.setIfInBounds_toArray, List.set_cons_zero, List.set_cons_succ]))
  (refine TD.val0 (v := ?v7) (by simp only [List.getElem?_toArray, List.getElem?_cons_succ, List.getElem?_cons_zero]; rfl) rfl ?hw7 (fun w1 => ?hy7) ?hn7; (case hw7 => rfl); (case hy7 => (go_simp; (try with_reducible rfl))); (try simp only [Act.put, List.setIfInBounds_toArray, List.set_cons_zero, List.set_cons_succ]))
  refine TD.nil (fun w2 hr => ?_)
  have kp2 := hr.mod.at kp2 (fun h => h)
  have kp3 := hr.mod.at kp3 (fun h => h)
  have m2 := m1.then0 hr.mod
  go_wp2_with fail
  go_ret
  exact ⟨rfl, m2⟩
def sameB (m n : List (Key × Acct)) : Bool := decide (m.length = n.length) && m.all (fun p => decide (lkp p.1 n = some p.2))
abbrev eqF := 32
theorem lookup2 {P : Program} {T K E : TypeId} {es : Array MapEntry} {cl : Nat} {m : List (Key × Acct)} (M : MapIs kv avv es cl m) (hk : KeyT P K kv) (hT : P.underlying T = some (.map K E)) (hz : ∀ w, (zeroValue E).run P w = .ok (avv acct0) w)
    {w : World} {b : Nat} (hb : w.heap[b]? = some (.map es cl)) (k : Key) : (Instr.lookup T (.map (some b)) (.agg (kc k)) true).run P w = .ok (.tuple #[.agg (av (getA m k)), .bool (lkp k m).isSome]) w := by
  rw [show Value.agg (kc k) = kv k from rfl, M.lookup hk hT hz w hb k true]
  unfold getA
  cases lkp k m <;> rfl
set_option maxRecDepth 20000 in
set_option maxHeartbeats 1600000 in
theorem eqf_c (b1 b2 : Nat) (es1 es2 : Array MapEntry) (c1 c2 : Nat) (m n : List (Key × Acct)) (w : World) (kb1 : w.heap[b1]? = some (.map es1 c1)) (M1 : MapIs kv avv es1 c1 m) (kb2 : w.heap[b2]? = some (.map es2 c2)) (M2 : MapIs kv avv es2 c2 n) :
    Calls Try.prog eqF #[.map (some b1), .map (some b2), .func (.func 33) #[] #[]] w fun e w' => e = .returned (.bool (sameB m n)) ∧ Mod (fun _ => False) w w' := by
  have hl1 := fun ty => M1.len (P := Try.prog) (ty := ty) Try.underlying26 w kb1
  have hl2 := fun ty => M2.len (P := Try.prog) (ty := ty) Try.underlying26 w kb2
  have hrg := run_range_map (P := Try.prog) w 26 28 31 b1 es1 c1 Try.underlying26 kb1
  go_enter Try.func32, Try.ntmps32
  by_cases hl : m.length = n.length
  · have hd0 : ((m.length : Int) != (n.length : Int)) = false := by simp [hl]
    have HL := Lib.hid hl
    clear hl
    go_wp2_with fail
    clear hl1 hl2 hd0
    obtain ⟨w2, rb, hrb, kr, m2, e2⟩ : ∃ w2 rb, w.heap.size = rb ∧ w2.heap[rb]? = some (.mapIter (some b1) c1 #[] c1) ∧ Mod (fun _ => False) w w2 ∧ w2 = w.alloc (.mapIter (some b1) c1 #[] c1) := ⟨_, _, rfl, heap_alloc_new _ _, (Mod.refl _ _).alloc _, rfl⟩
    rw [← e2, hrb]
    have hrb2 : w.heap.size ≤ rb := by omega
    have HB2 : Hid (b2 ≠ rb ∧ w.heap.size ≤ rb) := Lib.hid ⟨by have := lt_size kb2; omega, hrb2⟩
    have hit := IterAt.start M1 kr
    have kb1' := m2.at0 kb1
    have kb2' := m2.at0 kb2
    clear e2 hrb hrg kb1 kb2 kr
    go_loopw [] (fun ws => ∃ (done rem : List (Key × Acct)), Hid ((done ++ rem).Perm m) ∧ Hid (done.all (fun p => decide (lkp p.1 n = some p.2)) = true) ∧ IterAt ws rb b1 kv avv es1 c1 rem ∧ Mod (fun _ => False) w ws ∧ ws.heap[b1]? = some (.map es1 c1) ∧ ws.heap[b2]? = some (.map es2 c2)) (fun ws => leftN ws rb b1)
    case atStart => exact ⟨[], m, Lib.hid (by simp), Lib.hid (by simp), hit, m2, kb1', kb2'⟩
    case round =>
      clear hit kb1' kb2' m2 w2
      obtain ⟨done, rem, HP, HD, hit, hm, kb1, kb2⟩ := hrel
      have hmeas := hit.leftN kb1
      have HLm := Lib.hid hmeas
      clear hmeas
      rcases hit.next (P := Try.prog) M1 kb1 0 with ⟨rfl, hrun⟩ | ⟨q, rem', w3, it, hperm, hrun, kr3, m3, kb3, hent⟩
      · have HR : Hid (sameB m n = true) := Lib.hid (by
          unfold sameB
          rw [decide_eq_true HL.out, Bool.true_and]
          have hp := HP.out
          rw [List.append_nil] at hp
          rw [List.all_eq_true]
          intro x hx
          exact List.all_eq_true.1 HD.out x (hp.mem_iff.2 hx))
        clear hit HLm kb1 kb2 M1 M2 HP HD HL
        go_wp2_with fail
        go_ret
        exact ⟨by rw [HR.out]; rfl, hm⟩
      · obtain ⟨qk, qa⟩ := q
        have hlen2 := hperm.length_eq
        have HPM := Lib.hid hperm
        have kb2 := m3.at kb2 HB2.out.1
        have mm := hm.thenB m3 (.inl hrb2)
        have HE : Hid (∀ wq, Mod (fun _ => False) w3 wq → (Instr.entry (.pointer (some ⟨rb, 0, none⟩))).run Try.prog wq = .ok (.tuple #[.agg (kc qk), .agg (av qa)]) wq) := Lib.hid fun wq hm => (hent wq (hm.at0 kr3) (hm.at0 kb3)).1
        have HI := Lib.hid hent
        have hrun2 : (Instr.next (.pointer (some ⟨rb, 0, none⟩)) false 0).run Try.prog wr = .ok (.tuple #[.bool true, .agg (kc qk), .agg (av qa)]) w3 := hrun
        have HIN : Hid ((qk, qa) ∈ m) := Lib.hid (HP.out.mem_iff.1 (List.mem_append_right _ (hperm.mem_iff.2 (by simp))))
        clear hperm hit hent hm m3 hrun kb1
        go_upto_region 5 with fail
        have hent2 := HE.out
        have Lkr3 := lt_size kr3
        have Lkb3 := lt_size kb3
        have Lkb2 := lt_size kb2
        refine wp_pass0 (C := fun _ _ _ => False) (κ := fun i => [1, 0, 0, 3, 3, 4, 4].getD i 0) [0, 1, 2, 3, 4, 5, 6] (by kernel_rfl) (by kernel_rfl) (fun _ _ d _ _ h => by cases d <;> exact h) ?_
        (refine TD.entry (v := ?v8) (p := ?p8) (Mod.refl _ _) (by simp only [List.getElem?_toArray, List.getElem?_cons_succ, List.getElem?_cons_zero]; rfl) rfl ?hw8 rfl ?hx8 (fun wq hSq => ?hy8) ?hn8; (case hw8 => rfl); (case hx8 => (simp only [Act.eval, Array.getD_eq_getD_getElem?, List.getElem?_toArray, List.getElem?_cons_succ, List.getElem?_cons_zero, Option.getD_some]; (try rfl))); (case hy8 => (rw [hent2 wq hSq]; (try with_reducible rfl))); (try simp only [Act.put, List.setIfInBounds_toArray, List.set_cons_zero, List.set_cons_succ]))
        (refine TD.val0 (v := ?v9) (by simp only [List.getElem?_toArray, List.getElem?_cons_succ, List.getElem?_cons_zero]; rfl) rfl ?hw9 (fun w1 => ?hy9) ?hn9; (case hw9 => rfl); (case hy9 => (go_simp; (try with_reducible rfl))); (try simp only [Act.put, List.setIfInBounds_toArray, List.set_cons_zero, List.set_cons_succ]))
        (refine TD.val0 (v := ?v10) (by simp only [List.getElem?_toArray, List.getElem?_cons_succ, List.getElem?_cons_zero]; rfl) rfl ?hw10 (fun w1 => ?hy10) ?hn10; (case hw10 => rfl); (case hy10 => (go_simp; (try with_reducible rfl))); (try simp only [Act.put, List.setIfInBounds_toArray, List.set_cons_zero, List.set_cons_succ]))
        (refine TD.allocB (by simp only [List.getElem?_toArray, List.getElem?_cons_succ, List.getElem?_cons_zero]; rfl) rfl ?hw11 rfl rfl alKey (fun p7 hp7 => ?hn11); (case hw11 => rfl); (try simp only [Act.put, List.setIfInBounds_toArray, List.set_cons_zero, List.set_cons_succ]))
        (refine TD.allocB (by simp only [List.getElem?_toArray, List.getElem?_cons_succ, List.getElem?_cons_zero]; rfl) rfl ?hw12 rfl rfl alAcct (fun p8 hp8 => ?hn12); (case hw12 => rfl); (try simp only [Act.put, List.setIfInBounds_toArray, List.set_cons_zero, List.set_cons_succ]))
        obtain ⟨ne_p8_p7, hp8⟩ := Bx.set_none hp8
        (refine TD.storeB (d := ?d13) (T := ?T13) (y := ?y13) (p := ?p13) (b := ?b13) (v := ?v13) (by simp only [List.getElem?_toArray, List.getElem?_cons_succ, List.getElem?_cons_zero]; rfl) rfl ?hw13 ?hd13 ?hop13 ?hev13 ?hx13 ?hb13 ?htag13 (fun w1 hb1 => ?hy13) ?hn13; (case hw13 => rfl); (case hd13 => rfl); (case hop13 => rfl); (case hev13 => (simp only [Act.eval, Array.getD_eq_getD_getElem?, List.getElem?_toArray, List.getElem?_cons_succ, List.getElem?_cons_zero, Option.getD_some]; (try rfl))); (case hx13 => (simp only [Act.eval, Array.getD_eq_getD_getElem?, List.getElem?_toArray, List.getElem?_cons_succ, List.getElem?_cons_zero, Option.getD_some]; (try rfl))); (case hb13 => first | exact Bx.set_same _ _ _ | (simp only [Bx.set_ne _ (Ne.symm ne_p8_p7), Bx.set_ne _ ne_p8_p7, Bx.set_same]; rfl)); (case hy13 => (go_simp; (try with_reducible rfl))); (try simp only [Act.put, List.setIfInBounds_toArray, List.set_cons_zero, List.set_cons_succ]))
        (refine TD.storeB (d := ?d14) (T := ?T14) (y := ?y14) (p := ?p14) (b := ?b14) (v := ?v14) (by simp only [List.getElem?_toArray, List.getElem?_cons_succ, List.getElem?_cons_zero]; rfl) rfl ?hw14 ?hd14 ?hop14 ?hev14 ?hx14 ?hb14 ?htag14 (fun w1 hb1 => ?hy14) ?hn14; (case hw14 => rfl); (case hd14 => rfl); (case hop14 => rfl); (case hev14 => (simp only [Act.eval, Array.getD_eq_getD_getElem?, List.getElem?_toArray, List.getElem?_cons_succ, List.getElem?_cons_zero, Option.getD_some]; (try rfl))); (case hx14 => (simp only [Act.eval, Array.getD_eq_getD_getElem?, List.getElem?_toArray, List.getElem?_cons_succ, List.getElem?_cons_zero, Option.getD_some]; (try rfl))); (case hb14 => first | exact Bx.set_same _ _ _ | (simp only [Bx.set_ne _ (Ne.symm ne_p8_p7), Bx.set_ne _ ne_p8_p7, Bx.set_same]; rfl)); (case hy14 => (go_simp; (try with_reducible rfl))); (try simp only [Act.put, List.setIfInBounds_toArray, List.set_cons_zero, List.set_cons_succ]))
        refine TD.nil (fun w4 hr => ?_)
        have kr3 := hr.mod.at kr3 (fun h => h)
        have kb3 := hr.mod.at kb3 (fun h => h)
        have kb2 := hr.mod.at kb2 (fun h => h)
        have kp7 := hr.box p7 _ (by first | exact Bx.set_same _ _ _ | (simp only [Bx.set_ne _ (Ne.symm ne_p8_p7), Bx.set_ne _ ne_p8_p7, Bx.set_same]; rfl)); dsimp only [Value.cells] at kp7; obtain ⟨gp7, kp7⟩ := kp7
        have kp8 := hr.box p8 _ (by first | exact Bx.set_same _ _ _ | (simp only [Bx.set_ne _ (Ne.symm ne_p8_p7), Bx.set_ne _ ne_p8_p7, Bx.set_same]; rfl)); dsimp only [Value.cells] at kp8; obtain ⟨gp8, kp8⟩ := kp8
        clear hent2 HE
        have mm := mm.then0 hr.mod
        go_upto_region 6 with fail
        have hlk : ∀ wq, Mod (fun _ => False) w4 wq → (Instr.lookup 26 (.map (some b2)) (.agg (kc qk)) true).run Try.prog wq = .ok (.tuple #[.agg (av (getA n qk)), .bool (lkp qk n).isSome]) wq := fun wq hq => lookup2 M2 keyT Try.underlying26 zero_a (hq.at0 kb2) qk
        generalize hga : getA n qk = v at *
        have HGA := Lib.hid hga
        clear hga
        have Lkr3 := lt_size kr3
        have Lkb3 := lt_size kb3
        have Lkb2 := lt_size kb2
        have Lkp7 := lt_size kp7
        have Lkp8 := lt_size kp8
        refine wp_pass0 (C := fun _ _ _ => False) (κ := fun i => [0, 1, 1, 0, 0, 0, 3, 4, 0].getD i 0) [0, 1, 2, 3, 4, 5, 6, 7, 8] (by kernel_rfl) (by kernel_rfl) (fun _ _ d _ _ h => by cases d <;> exact h) ?_
        (refine TD.val0 (v := ?v15) (by simp only [List.getElem?_toArray, List.getElem?_cons_succ, List.getElem?_cons_zero]; rfl) rfl ?hw15 (fun w1 => ?hy15) ?hn15; (case hw15 => rfl); (case hy15 => (go_simp; (try with_reducible rfl))); (try simp only [Act.put, List.setIfInBounds_toArray, List.set_cons_zero, List.set_cons_succ]))
        (refine TD.load (v := ?v16) (p := ?p16) (Mod.refl _ _) (by simp only [List.getElem?_toArray, List.getElem?_cons_succ, List.getElem?_cons_zero]; rfl) rfl ?hw16 rfl ?hx16 (fun wq hSq => ?hy16) ?hn16; (case hw16 => rfl); (case hx16 => (simp only [Act.eval, Array.getD_eq_getD_getElem?, List.getElem?_toArray, List.getElem?_cons_succ, List.getElem?_cons_zero, Option.getD_some]; (try rfl))); (case hy16 => (have kr3q := hSq.at kr3 (fun h => h); have kb3q := hSq.at kb3 (fun h => h); have kb2q := hSq.at kb2 (fun h => h); have kp7q := hSq.at kp7 (fun h => h); have kp8q := hSq.at kp8 (fun h => h); go_simp; (try with_reducible rfl))); (try simp only [Act.put, List.setIfInBounds_toArray, List.set_cons_zero, List.set_cons_succ]))
        (refine TD.lookup (v := ?v17) (p := ?p17) (q := ?q17) (Mod.refl _ _) (by simp only [List.getElem?_toArray, List.getElem?_cons_succ, List.getElem?_cons_zero]; rfl) rfl ?hw17 rfl ?hx17 ?hz17 (fun wq hSq => ?hy17) ?hn17; (case hw17 => rfl); (case hx17 => (simp only [Act.eval, Array.getD_eq_getD_getElem?, List.getElem?_toArray, List.getElem?_cons_succ, List.getElem?_cons_zero, Option.getD_some]; (try rfl))); (case hz17 => (simp only [Act.eval, Array.getD_eq_getD_getElem?, List.getElem?_toArray, List.getElem?_cons_succ, List.getElem?_cons_zero, Option.getD_some]; (try rfl))); (case hy17 => (rw [hlk wq hSq]; (try with_reducible rfl))); (try simp only [Act.put, List.setIfInBounds_toArray, List.set_cons_zero, List.set_cons_succ]))
        (refine TD.val0 (v := ?v18) (by simp only [List.getElem?_toArray, List.getElem?_cons_succ, List.getElem?_cons_zero]; rfl) rfl ?hw18 (fun w1 => ?hy18) ?hn18; (case hw18 => rfl); (case hy18 => (go_simp; (try with_reducible rfl))); (try simp only [Act.put, List.setIfInBounds_toArray, List.set_cons_zero, List.set_cons_succ]))
        (refine TD.val0 (v := ?v19) (by simp only [List.getElem?_toArray, List.getElem?_cons_succ, List.getElem?_cons_zero]; rfl) rfl ?hw19 (fun w1 => ?hy19) ?hn19; (case hw19 => rfl); (case hy19 => (go_simp; (try with_reducible rfl))); (try simp only [Act.put, List.setIfInBounds_toArray, List.set_cons_zero, List.set_cons_succ]))
        (refine TD.val0 (v := ?v20) (by simp only [List.getElem?_toArray, List.getElem?_cons_succ, List.getElem?_cons_zero]; rfl) rfl ?hw20 (fun w1 => ?hy20) ?hn20; (case hw20 => rfl); (case hy20 => (go_simp; (try with_reducible rfl))); (try simp only [Act.put, List.setIfInBounds_toArray, List.set_cons_zero, List.set_cons_succ]))
        (refine TD.allocB (by simp only [List.getElem?_toArray, List.getElem?_cons_succ, List.getElem?_cons_zero]; rfl) rfl ?hw21 rfl rfl alAcct (fun p9 hp9 => ?hn21); (case hw21 => rfl); (try simp only [Act.put, List.setIfInBounds_toArray, List.set_cons_zero, List.set_cons_succ]))
        (refine TD.storeB (d := ?d22) (T := ?T22) (y := ?y22) (p := ?p22) (b := ?b22) (v := ?v22) (by simp only [List.getElem?_toArray, List.getElem?_cons_succ, List.getElem?_cons_zero]; rfl) rfl ?hw22 ?hd22 ?hop22 ?hev22 ?hx22 ?hb22 ?htag22 (fun w1 hb1 => ?hy22) ?hn22; (case hw22 => rfl); (case hd22 => rfl); (case hop22 => rfl); (case hev22 => (simp only [Act.eval, Array.getD_eq_getD_getElem?, List.getElem?_toArray, List.getElem?_cons_succ, List.getElem?_cons_zero, Option.getD_some]; (try rfl))); (case hx22 => (simp only [Act.eval, Array.getD_eq_getD_getElem?, List.getElem?_toArray, List.getElem?_cons_succ, List.getElem?_cons_zero, Option.getD_some]; (try rfl))); (case hb22 => first | exact Bx.set_same _ _ _ | (simp only [Bx.set_same]; rfl)); (case hy22 => (go_simp; (try with_reducible rfl))); (try simp only [Act.put, List.setIfInBounds_toArray, List.set_cons_zero, List.set_cons_succ]))
        (refine TD.val0 (v := ?v23) (by simp only [List.getElem?_toArray, List.getElem?_cons_succ, List.getElem?_cons_zero]; rfl) rfl ?hw23 (fun w1 => ?hy23) ?hn23; (case hw23 => rfl); (case hy23 => (go_simp; (try with_reducible rfl))); (try simp only [Act.put, List.setIfInBounds_toArray, List.set_cons_zero, List.set_cons_succ]))
        refine TD.nil (fun w5 hr => ?_)
        have kr3 := hr.mod.at kr3 (fun h => h)
        have kb3 := hr.mod.at kb3 (fun h => h)
        have kb2 := hr.mod.at kb2 (fun h => h)
        have kp7 := hr.mod.at kp7 (fun h => h)
        have kp8 := hr.mod.at kp8 (fun h => h)
        have kp9 := hr.box p9 _ (by first | exact Bx.set_same _ _ _ | (simp only [Bx.set_same]; rfl)); dsimp only [Value.cells] at kp9; obtain ⟨gp9, kp9⟩ := kp9
        clear hlk
        have mm := mm.then0 hr.mod
        by_cases hsome : (lkp qk n).isSome = true
        · have HS : Hid (∃ y, lkp qk n = some y) := Lib.hid (Option.isSome_iff_exists.1 hsome)
          generalize (lkp qk n).isSome = bs at *
          subst hsome
          by_cases hqa : qa = v
          · have hde := decide_eq_true hqa
            subst hqa
            go_upto_region 7 with fail
            have Lkr3 := lt_size kr3
            have Lkb3 := lt_size kb3
            have Lkb2 := lt_size kb2
            have Lkp8 := lt_size kp8
            have Lkp9 := lt_size kp9
            refine wp_pass0 (C := fun _ _ u => u = .bool true) (κ := fun i => [0, 0, 0, 0, 1, 1, 2, 0, 0].getD i 0) [0, 1, 2, 3, 4, 5, 6, 7, 8] (by kernel_rfl) (by kernel_rfl) (fun _ _ d _ _ h => by cases d <;> exact h) ?_
            (refine TD.val0 (v := ?v24) (by simp only [List.getElem?_toArray, List.getElem?_cons_succ, List.getElem?_cons_zero]; rfl) rfl ?hw24 (fun w1 => ?hy24) ?hn24; (case hw24 => rfl); (case hy24 => (go_simp; (try with_reducible rfl))); (try simp only [Act.put, List.setIfInBounds_toArray, List.set_cons_zero, List.set_cons_succ]))
            (refine TD.val0 (v := ?v25) (by simp only [List.getElem?_toArray, List.getElem?_cons_succ, List.getElem?_cons_zero]; rfl) rfl ?hw25 (fun w1 => ?hy25) ?hn25; (case hw25 => rfl); (case hy25 => (go_simp; (try with_reducible rfl))); (try simp only [Act.put, List.setIfInBounds_toArray, List.set_cons_zero, List.set_cons_succ]))
            (refine TD.val0 (v := ?v26) (by simp only [List.getElem?_toArray, List.getElem?_cons_succ, List.getElem?_cons_zero]; rfl) rfl ?hw26 (fun w1 => ?hy26) ?hn26; (case hw26 => rfl); (case hy26 => (go_simp; (try with_reducible rfl))); (try simp only [Act.put, List.setIfInBounds_toArray, List.set_cons_zero, List.set_cons_succ]))
            (refine TD.val0 (v := ?v27) (by simp only [List.getElem?_toArray, List.getElem?_cons_succ, List.getElem?_cons_zero]; rfl) rfl ?hw27 (fun w1 => ?hy27) ?hn27; (case hw27 => rfl); (case hy27 => (go_simp; (try with_reducible rfl))); (try simp only [Act.put, List.setIfInBounds_toArray, List.set_cons_zero, List.set_cons_succ]))
            (refine TD.load (v := ?v28) (p := ?p28) (Mod.refl _ _) (by simp only [List.getElem?_toArray, List.getElem?_cons_succ, List.getElem?_cons_zero]; rfl) rfl ?hw28 rfl ?hx28 (fun wq hSq => ?hy28) ?hn28; (case hw28 => rfl); (case hx28 => (simp only [Act.eval, Array.getD_eq_getD_getElem?, List.getElem?_toArray, List.getElem?_cons_succ, List.getElem?_cons_zero, Option.getD_some]; (try rfl))); (case hy28 => (have kr3q := hSq.at kr3 (fun h => h); have kb3q := hSq.at kb3 (fun h => h); have kb2q := hSq.at kb2 (fun h => h); have kp8q := hSq.at kp8 (fun h => h); have kp9q := hSq.at kp9 (fun h => h); go_simp; (try with_reducible rfl))); (try simp only [Act.put, List.setIfInBounds_toArray, List.set_cons_zero, List.set_cons_succ]))
            (refine TD.load (v := ?v29) (p := ?p29) (Mod.refl _ _) (by simp only [List.getElem?_toArray, List.getElem?_cons_succ, List.getElem?_cons_zero]; rfl) rfl ?hw29 rfl ?hx29 (fun wq hSq => ?hy29) ?hn29; (case hw29 => rfl); (case hx29 => (simp only [Act.eval, Array.getD_eq_getD_getElem?, List.getElem?_toArray, List.getElem?_cons_succ, List.getElem?_cons_zero, Option.getD_some]; (try rfl))); (case hy29 => (have kr3q := hSq.at kr3 (fun h => h); have kb3q := hSq.at kb3 (fun h => h); have kb2q := hSq.at kb2 (fun h => h); have kp8q := hSq.at kp8 (fun h => h); have kp9q := hSq.at kp9 (fun h => h); go_simp; (try with_reducible rfl))); (try simp only [Act.put, List.setIfInBounds_toArray, List.set_cons_zero, List.set_cons_succ]))
            (refine TD.call (f := ?f30) (args := ?r30) (Mod.refl _ _) (by simp only [List.getElem?_toArray, List.getElem?_cons_succ, List.getElem?_cons_zero]; rfl) rfl ?hw30 (fun w1 => ?hy30) ?hsp30 ?hn30; (case hw30 => rfl); (case hy30 => (go_simp; (first | with_reducible rfl | (constructor <;> with_reducible rfl)))); (case hsp30 => (intro wq hSq; have kr3q := hSq.at kr3 (fun h => h); have kb3q := hSq.at kb3 (fun h => h); have kb2q := hSq.at kb2 (fun h => h); have kp8q := hSq.at kp8 (fun h => h); have kp9q := hSq.at kp9 (fun h => h); exact (same1_c qa qa wq).mono (fun e w' h => ⟨_, h.1, by rw [hde], h.2⟩))); rintro _ rfl; (try simp only [Act.put, List.setIfInBounds_toArray, List.set_cons_zero, List.set_cons_succ]))
            (refine TD.val0 (v := ?v31) (by simp only [List.getElem?_toArray, List.getElem?_cons_succ, List.getElem?_cons_zero]; rfl) rfl ?hw31 (fun w1 => ?hy31) ?hn31; (case hw31 => rfl); (case hy31 => (go_simp; (try with_reducible rfl))); (try simp only [Act.put, List.setIfInBounds_toArray, List.set_cons_zero, List.set_cons_succ]))
            (refine TD.val0 (v := ?v32) (by simp only [List.getElem?_toArray, List.getElem?_cons_succ, List.getElem?_cons_zero]; rfl) rfl ?hw32 (fun w1 => ?hy32) ?hn32; (case hw32 => rfl); (case hy32 => (go_simp; (try with_reducible rfl))); (try simp only [Act.put, List.setIfInBounds_toArray, List.set_cons_zero, List.set_cons_succ]))
            refine TD.nil (fun w6 hr => ?_)
            have kr3 := hr.mod.at kr3 (fun h => h)
            have kb3 := hr.mod.at kb3 (fun h => h)
            have kb2 := hr.mod.at kb2 (fun h => h)
            have kp8 := hr.mod.at kp8 (fun h => h)
            have kp9 := hr.mod.at kp9 (fun h => h)
            have mm := mm.then0 hr.mod
            have hit' := (HI.out _ kr3 kb3).2
            have hm6 := hit'.leftN kb3
            go_wp2_with fail
            go_roundw
            case rel =>
              refine ⟨done ++ [(qk, qa)], rem', Lib.hid ?_, Lib.hid ?_, hit', mm, kb3, kb2⟩
              · refine .trans ?_ HP.out
                rw [List.append_assoc]
                exact (HPM.out.symm).append_left done
              · obtain ⟨y, hy⟩ := HS.out
                have hg := HGA.out
                unfold getA at hg
                rw [hy] at hg
                rw [List.all_append, HD.out]
                simp only [List.all_cons, List.all_nil, Bool.and_true, Bool.true_and, decide_eq_true_eq]
                rw [hy, ← hg]
                rfl
            case measure =>
              rw [hm6, HLm.out]
              simp at hlen2
              omega
          · have HR : Hid (sameB m n = false) := Lib.hid (by
              unfold sameB
              rw [decide_eq_true HL.out, Bool.true_and, ← Bool.not_eq_true, List.all_eq_true]
              intro hall
              have h1 := hall _ HIN.out
              rw [decide_eq_true_eq] at h1
              have h2 := HGA.out
              unfold getA at h2
              rw [h1] at h2
              exact hqa h2)
            have hde := decide_eq_false hqa
            clear HD HP HPM HIN HI HLm HL
            go_upto_region 7 with fail
            have Lkr3 := lt_size kr3
            have Lkb3 := lt_size kb3
            have Lkb2 := lt_size kb2
            have Lkp8 := lt_size kp8
            have Lkp9 := lt_size kp9
            refine wp_pass0 (C := fun _ _ u => u = .bool false) (κ := fun i => [0, 0, 0, 0, 1, 1, 2, 0, 0].getD i 0) [0, 1, 2, 3, 4, 5, 6, 7, 8] (by kernel_rfl) (by kernel_rfl) (fun _ _ d _ _ h => by cases d <;> exact h) ?_
            (refine TD.val0 (v := ?v33) (by simp only [List.getElem?_toArray, List.getElem?_cons_succ, List.getElem?_cons_zero]; rfl) rfl ?hw33 (fun w1 => ?hy33) ?hn33; (case hw33 => rfl); (case hy33 => (go_simp; (try with_reducible rfl))); (try simp only [Act.put, List.setIfInBounds_toArray, List.set_cons_zero, List.set_cons_succ]))
            (refine TD.val0 (v := ?v34) (by simp only [List.getElem?_toArray, List.getElem?_cons_succ, List.getElem?_cons_zero]; rfl) rfl ?hw34 (fun w1 => ?hy34) ?hn34; (case hw34 => rfl); (case hy34 => (go_simp; (try with_reducible rfl))); (try simp only [Act.put, List.setIfInBounds_toArray, List.set_cons_zero, List.set_cons_succ]))
            (refine TD.val0 (v := ?v35) (by simp only [List.getElem?_toArray, List.getElem?_cons_succ, List.getElem?_cons_zero]; rfl) rfl ?hw35 (fun w1 => ?hy35) ?hn35; (case hw35 => rfl); (case hy35 => (go_simp; (try with_reducible rfl))); (try simp only [Act.put, List.setIfInBounds_toArray, List.set_cons_zero, List.set_cons_succ]))
            (refine TD.val0 (v := ?v36) (by simp only [List.getElem?_toArray, List.getElem?_cons_succ, List.getElem?_cons_zero]; rfl) rfl ?hw36 (fun w1 => ?hy36) ?hn36; (case hw36 => rfl); (case hy36 => (go_simp; (try with_reducible rfl))); (try simp only [Act.put, List.setIfInBounds_toArray, List.set_cons_zero, List.set_cons_succ]))
            (refine TD.load (v := ?v37) (p := ?p37) (Mod.refl _ _) (by simp only [List.getElem?_toArray, List.getElem?_cons_succ, List.getElem?_cons_zero]; rfl) rfl ?hw37 rfl ?hx37 (fun wq hSq => ?hy37) ?hn37; (case hw37 => rfl); (case hx37 => (simp only [Act.eval, Array.getD_eq_getD_getElem?, List.getElem?_toArray, List.getElem?_cons_succ, List.getElem?_cons_zero, Option.getD_some]; (try rfl))); (case hy37 => (have kr3q := hSq.at kr3 (fun h => h); have kb3q := hSq.at kb3 (fun h => h); have kb2q := hSq.at kb2 (fun h => h); have kp8q := hSq.at kp8 (fun h => h); have kp9q := hSq.at kp9 (fun h => h); go_simp; (try with_reducible rfl))); (try simp only [Act.put, List.setIfInBounds_toArray, List.set_cons_zero, List.set_cons_succ]))
            (refine TD.load (v := ?v38) (p := ?p38) (Mod.refl _ _) (by simp only [List.getElem?_toArray, List.getElem?_cons_succ, List.getElem?_cons_zero]; rfl) rfl ?hw38 rfl ?hx38 (fun wq hSq => ?hy38) ?hn38; (case hw38 => rfl); (case hx38 => (simp only [Act.eval, Array.getD_eq_getD_getElem?, List.getElem?_toArray, List.getElem?_cons_succ, List.getElem?_cons_zero, Option.getD_some]; (try rfl))); (case hy38 => (have kr3q := hSq.at kr3 (fun h => h); have kb3q := hSq.at kb3 (fun h => h); have kb2q := hSq.at kb2 (fun h => h); have kp8q := hSq.at kp8 (fun h => h); have kp9q := hSq.at kp9 (fun h => h); go_simp; (try with_reducible rfl))); (try simp only [Act.put, List.setIfInBounds_toArray, List.set_cons_zero, List.set_cons_succ]))
            (refine TD.call (f := ?f39) (args := ?r39) (Mod.refl _ _) (by simp only [List.getElem?_toArray, List.getElem?_cons_succ, List.getElem?_cons_zero]; rfl) rfl ?hw39 (fun w1 => ?hy39) ?hsp39 ?hn39; (case hw39 => rfl); (case hy39 => (go_simp; (first | with_reducible rfl | (constructor <;> with_reducible rfl)))); (case hsp39 => (intro wq hSq; have kr3q := hSq.at kr3 (fun h => h); have kb3q := hSq.at kb3 (fun h => h); have kb2q := hSq.at kb2 (fun h => h); have kp8q := hSq.at kp8 (fun h => h); have kp9q := hSq.at kp9 (fun h => h); exact (same1_c qa v wq).mono (fun e w' h => ⟨_, h.1, by rw [hde], h.2⟩))); rintro _ rfl; (try simp only [Act.put, List.setIfInBounds_toArray, List.set_cons_zero, List.set_cons_succ]))
            (refine TD.val0 (v := ?v40) (by simp only [List.getElem?_toArray, List.getElem?_cons_succ, List.getElem?_cons_zero]; rfl) rfl ?hw40 (fun w1 => ?hy40) ?hn40; (case hw40 => rfl); (case hy40 => (go_simp; (try with_reducible rfl))); (try simp only [Act.put, List.setIfInBounds_toArray, List.set_cons_zero, List.set_cons_succ]))
            (refine TD.val0 (v := ?v41) (by simp only [List.getElem?_toArray, List.getElem?_cons_succ, List.getElem?_cons_zero]; rfl) rfl ?hw41 (fun w1 => ?hy41) ?hn41; (case hw41 => rfl); (case hy41 => (go_simp; (try with_reducible rfl))); (try simp only [Act.put, List.setIfInBounds_toArray, List.set_cons_zero, List.set_cons_succ]))
            refine TD.nil (fun w6 hr => ?_)
            have kr3 := hr.mod.at kr3 (fun h => h)
            have kb3 := hr.mod.at kb3 (fun h => h)
            have kb2 := hr.mod.at kb2 (fun h => h)
            have kp8 := hr.mod.at kp8 (fun h => h)
            have kp9 := hr.mod.at kp9 (fun h => h)
            have mm := mm.then0 hr.mod
            go_wp2_with fail
            go_ret
            exact ⟨by rw [HR.out]; rfl, mm⟩
        · have HR : Hid (sameB m n = false) := Lib.hid (by
            unfold sameB
            rw [decide_eq_true HL.out, Bool.true_and, ← Bool.not_eq_true, List.all_eq_true]
            intro hall
            have h1 := hall _ HIN.out
            rw [decide_eq_true_eq] at h1
            exact hsome (by rw [h1]; rfl))
          generalize (lkp qk n).isSome = bs at *
          obtain rfl : bs = false := by simpa using hsome
          clear HD HP HPM HIN HI HLm HL
          go_upto_region 7 with fail
          have Lkr3 := lt_size kr3
          have Lkb3 := lt_size kb3
          have Lkb2 := lt_size kb2
          have Lkp8 := lt_size kp8
          have Lkp9 := lt_size kp9
          refine wp_pass0 (C := fun _ _ _ => False) (κ := fun i => [0, 0, 0, 0, 1, 1, 0, 0, 0].getD i 0) [0, 1, 2, 3, 4, 5, 6, 7, 8] (by kernel_rfl) (by kernel_rfl) (fun _ _ d _ _ h => by cases d <;> exact h) ?_
          (refine TD.val0 (v := ?v42) (by simp only [List.getElem?_toArray, List.getElem?_cons_succ, List.getElem?_cons_zero]; rfl) rfl ?hw42 (fun w1 => ?hy42) ?hn42; (case hw42 => rfl); (case hy42 => (go_simp; (try with_reducible rfl))); (try simp only [Act.put, List.setIfInBounds_toArray, List.set_cons_zero, List.set_cons_succ]))
          (refine TD.val0 (v := ?v43) (by simp only [List.getElem?_toArray, List.getElem?_cons_succ, List.getElem?_cons_zero]; rfl) rfl ?hw43 (fun w1 => ?hy43) ?hn43; (case hw43 => rfl); (case hy43 => (go_simp; (try with_reducible rfl))); (try simp only [Act.put, List.setIfInBounds_toArray, List.set_cons_zero, List.set_cons_succ]))
          (refine TD.val0 (v := ?v44) (by simp only [List.getElem?_toArray, List.getElem?_cons_succ, List.getElem?_cons_zero]; rfl) rfl ?hw44 (fun w1 => ?hy44) ?hn44; (case hw44 => rfl); (case hy44 => (go_simp; (try with_reducible rfl))); (try simp only [Act.put, List.setIfInBounds_toArray, List.set_cons_zero, List.set_cons_succ]))
          (refine TD.pass (by simp only [List.getElem?_toArray, List.getElem?_cons_succ, List.getElem?_cons_zero]; rfl) rfl ?hw45 ?hn45; (case hw45 => rfl); (try simp only [Act.put, List.setIfInBounds_toArray, List.set_cons_zero, List.set_cons_succ]))
          (refine TD.pass1 (by simp only [List.getElem?_toArray, List.getElem?_cons_succ, List.getElem?_cons_zero]; rfl) rfl ?hw46 ?hn46; (case hw46 => rfl); (try simp only [Act.put, List.setIfInBounds_toArray, List.set_cons_zero, List.set_cons_succ]))
          (refine TD.pass1 (by simp only [List.getElem?_toArray, List.getElem?_cons_succ, List.getElem?_cons_zero]; rfl) rfl ?hw47 ?hn47; (case hw47 => rfl); (try simp only [Act.put, List.setIfInBounds_toArray, List.set_cons_zero, List.set_cons_succ]))
          (refine TD.pass (by simp only [List.getElem?_toArray, List.getElem?_cons_succ, List.getElem?_cons_zero]; rfl) rfl ?hw48 ?hn48; (case hw48 => rfl); (try simp only [Act.put, List.setIfInBounds_toArray, List.set_cons_zero, List.set_cons_succ]))
          (refine TD.pass (by simp only [List.getElem?_toArray, List.getElem?_cons_succ, List.getElem?_cons_zero]; rfl) rfl ?hw49 ?hn49; (case hw49 => rfl); (try simp only [Act.put, List.setIfInBounds_toArray, List.set_cons_zero, List.set_cons_succ]))
          (refine TD.val0 (v := ?v50) (by simp only [List.getElem?_toArray, List.getElem?_cons_succ, List.getElem?_cons_zero]; rfl) rfl ?hw50 (fun w1 => ?hy50) ?hn50; (case hw50 => rfl); (case hy50 => (go_simp; (try with_reducible rfl))); (try simp only [Act.put, List.setIfInBounds_toArray, List.set_cons_zero, List.set_cons_succ]))
          refine TD.nil (fun w6 hr => ?_)
          have kr3 := hr.mod.at kr3 (fun h => h)
          have kb3 := hr.mod.at kb3 (fun h => h)
          have kb2 := hr.mod.at kb2 (fun h => h)
          have kp8 := hr.mod.at kp8 (fun h => h)
          have kp9 := hr.mod.at kp9 (fun h => h)
          have mm := mm.then0 hr.mod
          go_wp2_with fail
          go_ret
          exact ⟨by rw [HR.out]; rfl, mm⟩
  · have hd0 : ((m.length : Int) != (n.length : Int)) = true := by
      simp only [bne_iff_ne, ne_eq]
      omega
    have HR : Hid (sameB m n = false) := Lib.hid (by
      unfold sameB
      rw [decide_eq_false hl]
      rfl)
    clear hl hrg
    go_wp2_with fail
    go_ret
    exact ⟨by rw [HR.out]; rfl, Mod.refl _ _⟩
/-! Clone, Copy. -/
abbrev clF := 31
theorem assertMap (w : World) (t xT k e : TypeId) (v : Value) (h : Try.prog.underlying t = some (.map k e)) : (Instr.typeAssert (.iface t v) xT t false).run Try.prog w = .ok v w := by
  simp [Instr.typeAssert, run_underlying h, go_sem, Result.andThen]
theorem cloneRun {r : Nat} {es : Array MapEntry} {clock : Nat} (w : World) (t : TypeId) (hb : w.heap[r]? = some (.map es clock)) :
    (Extern.MapsClone.clone #[.iface t (.map (some r))]).run Try.prog w = .ok (.iface t (.map (some w.heap.size))) (w.alloc (.map es clock)) := by
  have e : Extern.MapsClone.clone #[.iface t (.map (some r))] = (getObj r >>= fun o => match o with
      | .map entries clock => (newObj (.map entries clock) >>= fun n => pure (.iface t (.map (some n))))
      | _ => stuck "maps.clone: a map expected") := rfl
  rw [e]
  simp [MapKept.run_getObj_map hb, Result.andThen, go_sem]
set_option maxRecDepth 20000 in
theorem clone_c (b : Nat) (es : Array MapEntry) (clock : Nat) (w : World) (hb : w.heap[b]? = some (.map es clock)) :
    Calls Try.prog clF #[.map (some b)] w fun e w' => e = .returned (.map (some w.heap.size)) ∧ w' = w.alloc (.map es clock) := by
  have hq := fun w => eqMap w (some b)
  go_enter Try.func31, Try.ntmps31
  go_wp2
  rw [run_callFunc_extern Try.func40 (by kernel_rfl) (by kernel_rfl) (by kernel_rfl) (e := Extern.MapsClone.clone) (by kernel_rfl), cloneRun w _ hb]
  simp only [Result.andThen]
  rw [Oper.upon_value]
  go_wp2
  rw [assertMap _ _ _ _ _ _ Try.underlying26]
  simp only [Result.andThen]
  rw [Oper.upon_value]
  go_wp2
  go_ret
  exact ⟨rfl, rfl⟩
theorem copy_c (p b : Nat) (m : List (Key × Acct)) (w : World) (h : StAt w p b m) : Calls Try.prog 15 #[.pointer (some ⟨p, 0, none⟩)] w fun e w' => ∃ q c, e = .returned (.pointer (some ⟨q, 0, none⟩)) ∧ w.heap.size ≤ q ∧ w.heap.size ≤ c ∧ StAt w' q c m ∧ Mod (fun _ => False) w w' := by
  obtain ⟨kp, es, cl, kb, M⟩ := id h
  have H := Lib.hid h
  clear h
  have hc := clone_c b es cl w kb
  go_enter Try.func15, Try.ntmps15
  go_wp2_with fail
  go_at_call 25
  refine (there_c p b m _ H.out).mono ?_
  rintro e w2 ⟨rfl, rfl⟩
  go_wp2_with fail
  go_at_call 31
  refine hc.mono ?_
  rintro e w3 ⟨rfl, rfl⟩
  clear hc
  go_wp2_with fail
  go_ret
  obtain ⟨h1, h2⟩ := fresh2 w (.map es cl) (.cells #[.map (some w.heap.size)] 62)
  exact ⟨_, w.heap.size, rfl, by omega, by omega, ⟨h2, _, _, h1, M⟩, ((Mod.refl _ _).alloc _).alloc _⟩
set_option maxHeartbeats 1600000 in
theorem same2_c (p b q c : Nat) (m n : List (Key × Acct)) (w : World) (h : StAt w p b m) (h2 : StAt w q c n) : Calls Try.prog 19 #[.pointer (some ⟨p, 0, none⟩), .pointer (some ⟨q, 0, none⟩)] w fun e w' => e = .returned (.bool (sameB m n)) ∧ Mod (fun _ => False) w w' := by
  obtain ⟨kp, es, cl, kb, M⟩ := id h
  obtain ⟨kq, es2, cl2, kb2, M2⟩ := id h2
  have H := Lib.hid h
  have H2 := Lib.hid h2
  clear h h2
  have HE : Hid (∀ wq, Mod (fun _ => False) w wq → Calls Try.prog eqF #[.map (some b), .map (some c), .func (.func 33) #[] #[]] wq fun e w' => e = .returned (.bool (sameB m n)) ∧ Mod (fun _ => False) wq w') := Lib.hid fun wq hq => eqf_c b c es es2 cl cl2 m n wq (hq.at0 kb) M (hq.at0 kb2) M2
  clear kb kb2 M M2
  generalize sameB m n = r at *
  go_enter Try.func19, Try.ntmps19
  go_upto_region 1 with fail
  go_wp2_with fail
  go_at_call 25
  refine (there_c p b m _ H.out).mono ?_
  rintro e w2 ⟨rfl, rfl⟩
  go_wp2_with fail
  go_at_call 25
  refine (there_c q c n _ H2.out).mono ?_
  rintro e w2 ⟨rfl, rfl⟩
  go_upto_region 3 with fail
  have Lkp := lt_size kp
  have Lkq := lt_size kq
  refine wp_pass (C := fun _ _ u => u = .bool r) (κ := fun i => [0, 0, 0, 1, 0, 0, 0, 1, 2, 0].getD i 0) [0, 1, 2, 3, 4, 5, 6, 7, 8, 9] (by kernel_rfl) (by kernel_rfl) (fun _ _ d _ _ h => by cases d <;> exact h) ?_
  (refine TD.val0 (v := ?v51) (by simp only [List.getElem?_toArray, List.getElem?_cons_succ, List.getElem?_cons_zero]; rfl) rfl ?hw51 (fun w1 => ?hy51) ?hn51; (case hw51 => rfl); (case hy51 => (go_simp; (try with_reducible rfl))); (try simp only [Act.put, List.setIfInBounds_toArray, List.set_cons_zero, List.set_cons_succ]))
  (refine TD.val0 (v := ?v52) (by simp only [List.getElem?_toArray, List.getElem?_cons_succ, List.getElem?_cons_zero]; rfl) rfl ?hw52 (fun w1 => ?hy52) ?hn52; (case hw52 => rfl); (case hy52 => (go_simp; (try with_reducible rfl))); (try simp only [Act.put, List.setIfInBounds_toArray, List.set_cons_zero, List.set_cons_succ]))
  (refine TD.val0 (v := ?v53) (by simp only [List.getElem?_toArray, List.getElem?_cons_succ, List.getElem?_cons_zero]; rfl) rfl ?hw53 (fun w1 => ?hy53) ?hn53; (case hw53 => rfl); (case hy53 => (go_simp; (try with_reducible rfl))); (try simp only [Act.put, List.setIfInBounds_toArray, List.set_cons_zero, List.set_cons_succ]))
  (refine TD.load (v := ?v54) (p := ?p54) (Mod.refl _ _) (by simp only [List.getElem?_toArray, List.getElem?_cons_succ, List.getElem?_cons_zero]; rfl) rfl ?hw54 rfl ?hx54 (fun wq hSq => ?hy54) ?hn54; (case hw54 => rfl); (case hx54 => (simp only [Act.eval, Array.getD_eq_getD_getElem?, List.getElem?_toArray, List.getElem?_cons_succ, List.getElem?_cons_zero, Option.getD_some]; (try rfl))); (case hy54 => (have kpq := hSq.at kp (fun h => h); have kqq := hSq.at kq (fun h => h); go_simp; (try with_reducible rfl))); (try simp only [Act.put, List.setIfInBounds_toArray, List.set_cons_zero, List.set_cons_succ]))
  (refine TD.val0 (v := ?v55) (by simp only [List.getElem?_toArray, List.getElem?_cons_succ, List.getElem?_cons_zero]; rfl) rfl ?hw55 (fun w1 => ?hy55) ?hn55; (case hw55 => rfl); (case hy55 => (go_simp; (try with_reducible rfl))); (try simp only [Act.put, List.setIfInBounds_toArray, List.set_cons_zero, List.set_cons_succ]))
  (refine TD.val0 (v := ?v56) (by simp only [List.getElem?_toArray, List.getElem?_cons_succ, List.getElem?_cons_zero]; rfl) rfl ?hw56 (fun w1 => ?hy56) ?hn56; (case hw56 => rfl); (case hy56 => (go_simp; (try with_reducible rfl))); (try simp only [Act.put, List.setIfInBounds_toArray, List.set_cons_zero, List.set_cons_succ]))
  (refine TD.val0 (v := ?v57) (by simp only [List.getElem?_toArray, List.getElem?_cons_succ, List.getElem?_cons_zero]; rfl) rfl ?hw57 (fun w1 => ?hy57) ?hn57; (case hw57 => rfl); (case hy57 => (go_simp; (try with_reducible rfl))); (try simp only [Act.put, List.setIfInBounds_toArray, List.set_cons_zero, List.set_cons_succ]))
  (refine TD.load (v := ?v58) (p := ?p58) (Mod.refl _ _) (by simp only [List.getElem?_toArray, List.getElem?_cons_succ, List.getElem?_cons_zero]; rfl) rfl ?hw58 rfl ?hx58 (fun wq hSq => ?hy58) ?hn58; (case hw58 => rfl); (case hx58 => (simp only [Act.eval, Array.getD_eq_getD_getElem?, List.getElem?_toArray, List.getElem?_cons_succ, List.getElem?_cons_zero, Option.getD_some]; (try rfl))); (case hy58 => (have kpq := hSq.at kp (fun h => h); have kqq := hSq.at kq (fun h => h); go_simp; (try with_reducible rfl))); (try simp only [Act.put, List.setIfInBounds_toArray, List.set_cons_zero, List.set_cons_succ]))
  (refine TD.call (f := ?f59) (args := ?r59) (Mod.refl _ _) (by simp only [List.getElem?_toArray, List.getElem?_cons_succ, List.getElem?_cons_zero]; rfl) rfl ?hw59 (fun w1 => ?hy59) ?hsp59 ?hn59; (case hw59 => rfl); (case hy59 => (go_simp; (first | with_reducible rfl | (constructor <;> with_reducible rfl)))); (case hsp59 => (intro wq hSq; have kpq := hSq.at kp (fun h => h); have kqq := hSq.at kq (fun h => h); exact (HE.out wq hSq).mono (fun e w' h => ⟨_, h.1, rfl, h.2⟩))); rintro _ rfl; (try simp only [Act.put, List.setIfInBounds_toArray, List.set_cons_zero, List.set_cons_succ]))
  (refine TD.val0 (v := ?v60) (by simp only [List.getElem?_toArray, List.getElem?_cons_succ, List.getElem?_cons_zero]; rfl) rfl ?hw60 (fun w1 => ?hy60) ?hn60; (case hw60 => rfl); (case hy60 => (go_simp; (try with_reducible rfl))); (try simp only [Act.put, List.setIfInBounds_toArray, List.set_cons_zero, List.set_cons_succ]))
  refine TD.nil (fun w3 hr => ?_)
  have kp := hr.mod.at kp (fun h => h)
  have kq := hr.mod.at kq (fun h => h)
  have m3 := hr.mod
  go_wp2_with fail
  go_ret
  exact ⟨rfl, m3⟩
end Go.Proofs.Ytknmiojegnbakaa
