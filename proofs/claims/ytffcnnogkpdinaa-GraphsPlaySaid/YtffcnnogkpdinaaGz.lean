/- Graphs: Pop. -/
import Derived.Test.YtffcnnogkpdinaaGk
import Derived.Test.YtffcnnogkpdinaaGd
namespace Go.Proofs.Ytffcnnogkpdinaa
open Go.RowKit
open Go.ChangeMaps (setBlock)
set_option linter.unusedSimpArgs false
set_option linter.unusedVariables false
attribute [local go_sem ↓] wlKey wlRole ldKey ldRole stKey stRole
attribute [local go_sem] zKey_size zRole_size kc_ext rc_size rc_key rc_all rc_s rc_w rc_s' rc_w' rc_one one_int one_bool one_ptr one_slice one_map kc_one kc_one0 cell_blk frozen_blk Value.cells eqMap neMap
section
variable {P : Program} {ops : Array Oper} {Q : Exit → Act → World → Prop} {S : World → Prop} {C : FuncId → Array Value → Value → Prop} {w0 : World} {κ : Nat → Nat}
/-- A further step of the pass: two pointers are compared. -/
theorem TD.eqP {i : Nat} {r : List Nat} {a : Act} {B : Bx} {o : Oper} {T T2 : TypeId} {x y : Operand} {pa pb : Option Addr} {v : Value} (hS : S w0) (ho : ops[i]? = some o) (hk : κ i = 1) (hw : Region.wanted o (yielded ops a.tmps) = true)
    (hop : o.op = .binOp .eql T x y T2) (hx : a.eval x = .pointer pa) (hy : a.eval y = .pointer pb) (hr : ∀ w, S w → (binOp .eql T (.pointer pa) (.pointer pb)).run P w = .ok v w) (h : TD P ops Q S C w0 κ r (a.put o.dst v) B) : TD P ops Q S C w0 κ (i :: r) a B :=
  TD.val1 hS ho hk hw (fun w hs => by simp [execOp, hop, hx, hy, eqGuard, hr w hs, Result.andThen]) h
end
set_option maxRecDepth 20000 in
theorem eqNodeO {w : World} {o : Option Nat} {b : Nat} (ho : ∀ c, o = some c → IsNd w c) (hb : IsNd w b) : (binOp .eql 62 (opV o) (ptrV b)).run Try.prog w = .ok (.bool (decide (o = some b))) w := by
  cases o with
  | none => go_simp; try rfl
  | some c =>
    rw [show decide ((some c : Option Nat) = some b) = decide (c = b) from by simp]
    exact eqNode (ho c rfl) hb
theorem eqNodeNil (w : World) (o : Option Nat) : (binOp .eql 62 (opV o) (.pointer none)).run Try.prog w = .ok (.bool o.isNone) w := by
  cases o <;> (go_simp; try rfl)
theorem alNode (w : World) : (Instr.alloc 62 true (.tuple #[])).run Try.prog w = .ok (.pointer (some ⟨w.heap.size, 0, none⟩)) (w.alloc (.cells #[.pointer none] 62)) := run_alloc_row (z := .pointer none) (fun w => by kernel_rfl) w
set_option maxRecDepth 20000 in
set_option maxHeartbeats 3200000 in
theorem pop_none {g q : Nat} {C : List Cn} {T : Nat → Prop} {w : World} (hA : GAt g q C T w) (id : Int64) (hid : ∀ x ∈ C, x.id ≠ id) : Calls Try.prog 16 #[ptrV g, .int .i64 id.toInt] w fun e w' => e = .returned (.int .i64 11) ∧ Mod (fun _ => False) w w' := by
  obtain ⟨tag, nb, sb, L, N, S, nd, sp, H, I, rfl, hO⟩ := hA
  obtain ⟨es, c0, kb, M⟩ := H.kn
  have kh := H.c
  have hnone : lkp id N = none := by
    rcases I.look M.nodup id with ⟨h1, _⟩ | ⟨x, hx, h1, _⟩
    · exact h1
    · exact absurd h1 (hid _ (List.mem_map.2 ⟨x, hx, rfl⟩))
  have hlk : ∀ wq, Mod (fun _ => False) w wq → (Instr.lookup 52 (.map (some nb)) (.int .i64 id.toInt) false).run Try.prog wq = .ok (.pointer none) wq := fun wq hq => by
    have h1 := M.lookup idT Try.underlying52 (z := .pointer none) (fun w => by kernel_rfl) wq (hq.at0 kb) id false
    rw [hnone] at h1
    exact h1
  have HL := Lib.hid hlk
  clear hlk
  clear H I hO M hid hnone
  go_enter Try.func16, Try.ntmps16
  go_wp2_with fail
  go_at_call 23
  refine (there_c kh).mono ?_
  rintro e w2 ⟨rfl, rfl⟩
  have hlk2 := HL.out
  go_upto_region 3 with fail
  have Lkh := lt_size kh
  refine wp_pass0 (C := fun _ _ _ => False) (κ := fun i => [0, 0, 0, 1, 0, 1, 3, 4].getD i 0) [0, 1, 2, 3, 4, 5, 6, 7] (by kernel_rfl) (by kernel_rfl) (fun _ _ d _ _ h => by cases d <;> first | exact h | exact absurd h (hP _ _ _)) ?_
  (refine TD.val0 (v := ?v1) (by simp only [List.getElem?_toArray, List.getElem?_cons_succ, List.getElem?_cons_zero]; rfl) rfl ?hw1 (fun w1 => ?hy1) ?hn1; (case hw1 => rfl); (case hy1 => (go_simp; (try with_reducible rfl))); (try simp only [Act.put, List.setIfInBounds_toArray, List.set_cons_zero, List.set_cons_succ]))
  (refine TD.val0 (v := ?v2) (by simp only [List.getElem?_toArray, List.getElem?_cons_succ, List.getElem?_cons_zero]; rfl) rfl ?hw2 (fun w1 => ?hy2) ?hn2; (case hw2 => rfl); (case hy2 => (go_simp; (try with_reducible rfl))); (try simp only [Act.put, List.setIfInBounds_toArray, List.set_cons_zero, List.set_cons_succ]))
  (refine TD.val0 (v := ?v3) (by simp only [List.getElem?_toArray, List.getElem?_cons_succ, List.getElem?_cons_zero]; rfl) rfl ?hw3 (fun w1 => ?hy3) ?hn3; (case hw3 => rfl); (case hy3 => (go_simp; (try with_reducible rfl))); (try simp only [Act.put, List.setIfInBounds_toArray, List.set_cons_zero, List.set_cons_succ]))
  (refine TD.load (v := ?v4) (p := ?p4) (Mod.refl _ _) (by simp only [List.getElem?_toArray, List.getElem?_cons_succ, List.getElem?_cons_zero]; rfl) rfl ?hw4 rfl ?hx4 (fun wq hSq => ?hy4) ?hn4; (case hw4 => rfl); (case hx4 => (simp only [Act.eval, Array.getD_eq_getD_getElem?, List.getElem?_toArray, List.getElem?_cons_succ, List.getElem?_cons_zero, Option.getD_some]; (try rfl))); (case hy4 => (have khq := hSq.at kh (fun h => h); go_simp; (try with_reducible rfl))); (try simp only [Act.put, List.setIfInBounds_toArray, List.set_cons_zero, List.set_cons_succ]))
  (refine TD.val0 (v := ?v5) (by simp only [List.getElem?_toArray, List.getElem?_cons_succ, List.getElem?_cons_zero]; rfl) rfl ?hw5 (fun w1 => ?hy5) ?hn5; (case hw5 => rfl); (case hy5 => (go_simp; (try with_reducible rfl))); (try simp only [Act.put, List.setIfInBounds_toArray, List.set_cons_zero, List.set_cons_succ]))
  (refine TD.lookup (v := ?v6) (p := ?p6) (q := ?q6) (Mod.refl _ _) (by simp only [List.getElem?_toArray, List.getElem?_cons_succ, List.getElem?_cons_zero]; rfl) rfl ?hw6 rfl ?hx6 ?hz6 (fun wq hSq => ?hy6) ?hn6; (case hw6 => rfl); (case hx6 => (simp only [Act.eval, Array.getD_eq_getD_getElem?, List.getElem?_toArray, List.getElem?_cons_succ, List.getElem?_cons_zero, Option.getD_some]; (try rfl))); (case hz6 => (simp only [Act.eval, Array.getD_eq_getD_getElem?, List.getElem?_toArray, List.getElem?_cons_succ, List.getElem?_cons_zero, Option.getD_some]; (try rfl))); (case hy6 => (rw [hlk2 wq hSq]; (try with_reducible rfl))); (try simp only [Act.put, List.setIfInBounds_toArray, List.set_cons_zero, List.set_cons_succ]))
  (refine TD.allocB (by simp only [List.getElem?_toArray, List.getElem?_cons_succ, List.getElem?_cons_zero]; rfl) rfl ?hw7 rfl rfl alNode (fun p5 hp5 => ?hn7); (case hw7 => rfl); (try simp only [Act.put, List.setIfInBounds_toArray, List.set_cons_zero, List.set_cons_succ]))
  (refine TD.storeB (d := ?d8) (T := ?T8) (y := ?y8) (p := ?p8) (b := ?b8) (v := ?v8) (by simp only [List.getElem?_toArray, List.getElem?_cons_succ, List.getElem?_cons_zero]; rfl) rfl ?hw8 ?hd8 ?hop8 ?hev8 ?hx8 ?hb8 ?htag8 (fun w1 hb1 => ?hy8) ?hn8; (case hw8 => rfl); (case hd8 => rfl); (case hop8 => rfl); (case hev8 => (simp only [Act.eval, Array.getD_eq_getD_getElem?, List.getElem?_toArray, List.getElem?_cons_succ, List.getElem?_cons_zero, Option.getD_some]; (try rfl))); (case hx8 => (simp only [Act.eval, Array.getD_eq_getD_getElem?, List.getElem?_toArray, List.getElem?_cons_succ, List.getElem?_cons_zero, Option.getD_some]; (try rfl))); (case hb8 => first | exact Bx.set_same _ _ _ | (simp only [Bx.set_same]; rfl)); (case hy8 => (go_simp; (try first | with_reducible rfl | (rw [setCell_blk hb1]; rfl)))); (try simp only [Act.put, List.setIfInBounds_toArray, List.set_cons_zero, List.set_cons_succ]))
  refine TD.nil (fun w3 hr => ?_)
  have kh := hr.mod.at kh (fun h => h)
  have kp5 := hr.box p5 _ (by first | exact Bx.set_same _ _ _ | (simp only [Bx.set_same]; rfl)); dsimp only [Value.cells] at kp5; obtain ⟨gp5, kp5⟩ := kp5
  have m3 := hr.mod
  clear hr hlk2
  go_wp2_with fail
  go_ret
  exact ⟨rfl, m3⟩
theorem count_take {l : List Nat} {i y : Nat} (h : l[i]? = some y) : (l.take i).count y < l.count y := by
  have hi := (List.getElem?_eq_some_iff.1 h).1
  conv => rhs; rw [← List.take_append_drop i l]
  rw [List.count_append, List.drop_eq_getElem_cons hi]
  have : l[i] = y := (List.getElem?_eq_some_iff.1 h).2
  rw [this, List.count_cons_self]
  omega
set_option maxRecDepth 20000 in
set_option maxHeartbeats 6400000 in
theorem pop_c {g q : Nat} {CX CY : List Cn} {x : Cn} {T : Nat → Prop} {w : World} (hA : GAt g q (CX ++ x :: CY) T w) (hT : ∀ i, T i → i < w.heap.size) (id : Int64) (hid : x.id = id) : Calls Try.prog 16 #[ptrV g, .int .i64 id.toInt] w fun e w' =>
    (e = .returned (.int .i64 23) ∧ (∃ y ∈ CX, HitC y x) ∧ Mod (fun _ => False) w w') ∨ (e = .returned (.int .i64 0) ∧ (∀ y ∈ CX, ¬ HitC y x) ∧ GAt g q (CX ++ CY) T w' ∧ Mod T w w') := by
  obtain ⟨tag, nb, sb, L, N, S, nd, sp, H, I, hC, hO⟩ := hA
  obtain ⟨X, Y0, rfl, rfl, hY⟩ := List.map_eq_append_iff.1 hC.symm
  obtain ⟨p, Y, rfl, rfl, rfl⟩ := List.map_eq_cons_iff.1 hY
  clear hC hY
  obtain ⟨es, c0, kb, M⟩ := H.kn
  have kh := H.c
  have hpL : p ∈ X ++ p :: Y := by simp
  have hsome : lkp id N = some p.a := lkp_of_mem M.nodup (I.N.mem_iff.2 (List.mem_map.2 ⟨p, hpL, by rw [← hid]; rfl⟩))
  have hlk : ∀ wq, Mod (fun _ => False) w wq → (Instr.lookup 52 (.map (some nb)) (.int .i64 id.toInt) false).run Try.prog wq = .ok (ptrV p.a) wq := fun wq hq => by
    have h1 := M.lookup idT Try.underlying52 (z := .pointer none) (fun w => by kernel_rfl) wq (hq.at0 kb) id false
    rw [hsome] at h1
    exact h1
  have HL := Lib.hid hlk
  have hnp := H.nodes p.a (List.mem_map.2 ⟨p, hpL, rfl⟩)
  have kp := hnp.c
  have hwt := I.wts X p Y rfl
  have hkn := I.kn p hpL
  by_cases h0 : srcs X p.ks = []
  · rw [h0] at hwt
    have hwt0 : (nd p.a).wt = 0 := hwt
    have HW := Lib.hid hwt0
    have HH := Lib.hid H
    have HI := Lib.hid I
    have HM := Lib.hid M
    have H0 := Lib.hid h0
    have HO := Lib.hid (And.intro hO hT)
    have HN := Lib.hid hnp
    have HD := Lib.hid hid
    have ho := hnp.o
    obtain ⟨ad, c1, e1, -, -, -⟩ := ho.at ptrT
    have hcell : ∀ (i y : Nat), (nd p.a).nx[i]? = some y → ∃ g cap cur, (nd p.a).nv = .slice (some ⟨g, 0, none⟩) (nd p.a).nx.length cap ∧ w.heap[g]? = some (.cells cur 62 (0, 0)) ∧ cur[i]? = some (ptrV y) ∧ (nd p.a).nv.ownBlock = some g := fun i y hy => by
      have hL : (nd p.a).nx ≠ [] := fun e => by rw [e] at hy; cases hy
      obtain ⟨g, cap, cur, e, _, kg, _, _, hc, _⟩ := own_row ho hL
      exact ⟨g, cap, cur, e, kg, hc i y hy, by rw [e]; rfl⟩
    have HC := Lib.hid hcell
    have hnl := I.nxl p hpL
    have hpub := I.pub
    generalize hln : (nd p.a).nx.length = ln at *
    have hlb : ln ≤ 1000000000 := by omega
    have HLN := Lib.hid hln
    have HE := Lib.hid e1
    replace kp : w.heap[p.a]? = some (.cells #[.int .i64 (nd p.a).id.toInt, .int .i64 (nd p.a).ch.toInt, .int .i64 ((nd p.a).pt : Int), .int .i64 0, .slice ad ln c1, .map (some (nd p.a).kb)] 66 (0, 0)) := by
      unfold nrc at kp
      rw [e1, hwt0] at kp
      exact kp
    clear H I hO hT M hlk hsome hid hnp hwt hwt0 ho e1 hcell hnl hpub hln hkn hpL h0
    go_enter Try.func16, Try.ntmps16
    go_wp2_with fail
    go_at_call 23
    refine (there_c kh).mono ?_
    rintro e w2 ⟨rfl, rfl⟩
    have hlk2 := HL.out
    go_upto_region 3 with fail
    have Lkh := lt_size kh
    have Lkp := lt_size kp
    refine wp_pass0 (C := fun _ _ _ => False) (κ := fun i => [0, 0, 0, 1, 0, 1, 3, 4].getD i 0) [0, 1, 2, 3, 4, 5, 6, 7] (by kernel_rfl) (by kernel_rfl) (fun _ _ d _ _ h => by cases d <;> first | exact h | exact absurd h (hP _ _ _)) ?_
    (refine TD.val0 (v := ?v9) (by simp only [List.getElem?_toArray, List.getElem?_cons_succ, List.getElem?_cons_zero]; rfl) rfl ?hw9 (fun w1 => ?hy9) ?hn9; (case hw9 => rfl); (case hy9 => (go_simp; (try with_reducible rfl))); (try simp only [Act.put, List.setIfInBounds_toArray, List.set_cons_zero, List.set_cons_succ]))
    (refine TD.val0 (v := ?v10) (by simp only [List.getElem?_toArray, List.getElem?_cons_succ, List.getElem?_cons_zero]; rfl) rfl ?hw10 (fun w1 => ?hy10) ?hn10; (case hw10 => rfl); (case hy10 => (go_simp; (try with_reducible rfl))); (try simp only [Act.put, List.setIfInBounds_toArray, List.set_cons_zero, List.set_cons_succ]))
    (refine TD.val0 (v := ?v11) (by simp only [List.getElem?_toArray, List.getElem?_cons_succ, List.getElem?_cons_zero]; rfl) rfl ?hw11 (fun w1 => ?hy11) ?hn11; (case hw11 => rfl); (case hy11 => (go_simp; (try with_reducible rfl))); (try simp only [Act.put, List.setIfInBounds_toArray, List.set_cons_zero, List.set_cons_succ]))
    (refine TD.load (v := ?v12) (p := ?p12) (Mod.refl _ _) (by simp only [List.getElem?_toArray, List.getElem?_cons_succ, List.getElem?_cons_zero]; rfl) rfl ?hw12 rfl ?hx12 (fun wq hSq => ?hy12) ?hn12; (case hw12 => rfl); (case hx12 => (simp only [Act.eval, Array.getD_eq_getD_getElem?, List.getElem?_toArray, List.getElem?_cons_succ, List.getElem?_cons_zero, Option.getD_some]; (try rfl))); (case hy12 => (have khq := hSq.at kh (fun h => h); have kpq := hSq.at kp (fun h => h); go_simp; (try with_reducible rfl))); (try simp only [Act.put, List.setIfInBounds_toArray, List.set_cons_zero, List.set_cons_succ]))
    (refine TD.val0 (v := ?v13) (by simp only [List.getElem?_toArray, List.getElem?_cons_succ, List.getElem?_cons_zero]; rfl) rfl ?hw13 (fun w1 => ?hy13) ?hn13; (case hw13 => rfl); (case hy13 => (go_simp; (try with_reducible rfl))); (try simp only [Act.put, List.setIfInBounds_toArray, List.set_cons_zero, List.set_cons_succ]))
    (refine TD.lookup (v := ?v14) (p := ?p14) (q := ?q14) (Mod.refl _ _) (by simp only [List.getElem?_toArray, List.getElem?_cons_succ, List.getElem?_cons_zero]; rfl) rfl ?hw14 rfl ?hx14 ?hz14 (fun wq hSq => ?hy14) ?hn14; (case hw14 => rfl); (case hx14 => (simp only [Act.eval, Array.getD_eq_getD_getElem?, List.getElem?_toArray, List.getElem?_cons_succ, List.getElem?_cons_zero, Option.getD_some]; (try rfl))); (case hz14 => (simp only [Act.eval, Array.getD_eq_getD_getElem?, List.getElem?_toArray, List.getElem?_cons_succ, List.getElem?_cons_zero, Option.getD_some]; (try rfl))); (case hy14 => (rw [hlk2 wq hSq]; (try with_reducible rfl))); (try simp only [Act.put, List.setIfInBounds_toArray, List.set_cons_zero, List.set_cons_succ]))
    (refine TD.allocB (by simp only [List.getElem?_toArray, List.getElem?_cons_succ, List.getElem?_cons_zero]; rfl) rfl ?hw15 rfl rfl alNode (fun p5 hp5 => ?hn15); (case hw15 => rfl); (try simp only [Act.put, List.setIfInBounds_toArray, List.set_cons_zero, List.set_cons_succ]))
    (refine TD.storeB (d := ?d16) (T := ?T16) (y := ?y16) (p := ?p16) (b := ?b16) (v := ?v16) (by simp only [List.getElem?_toArray, List.getElem?_cons_succ, List.getElem?_cons_zero]; rfl) rfl ?hw16 ?hd16 ?hop16 ?hev16 ?hx16 ?hb16 ?htag16 (fun w1 hb1 => ?hy16) ?hn16; (case hw16 => rfl); (case hd16 => rfl); (case hop16 => rfl); (case hev16 => (simp only [Act.eval, Array.getD_eq_getD_getElem?, List.getElem?_toArray, List.getElem?_cons_succ, List.getElem?_cons_zero, Option.getD_some]; (try rfl))); (case hx16 => (simp only [Act.eval, Array.getD_eq_getD_getElem?, List.getElem?_toArray, List.getElem?_cons_succ, List.getElem?_cons_zero, Option.getD_some]; (try rfl))); (case hb16 => first | exact Bx.set_same _ _ _ | (simp only [Bx.set_same]; rfl)); (case hy16 => (go_simp; (try first | with_reducible rfl | (rw [setCell_blk hb1]; rfl)))); (try simp only [Act.put, List.setIfInBounds_toArray, List.set_cons_zero, List.set_cons_succ]))
    refine TD.nil (fun w3 hr => ?_)
    have kh := hr.mod.at kh (fun h => h)
    have kp := hr.mod.at kp (fun h => h)
    have kp5 := hr.box p5 _ (by first | exact Bx.set_same _ _ _ | (simp only [Bx.set_same]; rfl)); dsimp only [Value.cells] at kp5; obtain ⟨gp5, kp5⟩ := kp5
    have m3 := hr.mod
    have hp5 : w2.heap.size ≤ p5 := gp5
    clear hr hlk2
    have HM3 := Lib.hid m3
    have hm3 : GMem tag w3 g nb sb q ((X ++ p :: Y).map An.a) N S nd sp := HH.out.mod m3 (fun _ _ h => h)
    have HG3 := Lib.hid hm3
    have ht5 : tag p5 = none := by
      cases e : tag p5 with
      | none => rfl
      | some z =>
        have := HO.out.2 p5 (HO.out.1 p5 (by rw [e]; simp))
        omega
    have H5 := Lib.hid ht5
    clear hm3 m3 ht5
    go_wp2_with fail
    go_loopw [34] (fun s34 ws => ∃ (i : Nat) (nd1 : Nat → Nr), i ≤ ln ∧ s34 = .int .i64 i ∧ Hid (GMem tag ws g nb sb q ((X ++ p :: Y).map An.a) N S nd1 sp) ∧ Hid (∀ c ∈ X ++ p :: Y, nd1 c.a = { nd c.a with wt := (nd c.a).wt - ((nd p.a).nx.take i).count c.a }) ∧ Hid (Mod (fun j => ∃ c, tag j = some (c, 0)) w3 ws)) (fun s34 _ => ln - (intOf s34).toNat)
    case atStart => exact ⟨0, nd, Nat.zero_le _, rfl, HG3, Lib.hid (fun c _ => by simp), Lib.hid (Mod.refl _ _)⟩
    case round =>
      obtain ⟨i, nd1, hi, rfl, HG, HND, HM1⟩ := hrel
      by_cases hlt : i < ln
      · obtain ⟨y, hy⟩ : ∃ y, (nd p.a).nx[i]? = some y := ⟨_, List.getElem?_eq_getElem (by rw [HLN.out]; exact hlt)⟩
        obtain ⟨gg, cap, cur, e, kgg, hcx, hob⟩ := HC.out i y hy
        rw [HE.out] at e
        cases e
        have hygg : tag gg = some (p.a, 2) := HN.out.tn gg hob
        have kg3 := HM1.out.at (HM3.out.at0 kgg) (fun ⟨c, e⟩ => by
          rw [hygg] at e
          cases e)
        obtain ⟨xx, hxx, rfl⟩ := HI.out.nxm p (by simp) y (List.mem_of_getElem? hy)
        have hnx := HG.out.nodes xx.a (List.mem_map.2 ⟨xx, hxx, rfl⟩)
        obtain ⟨X', Y', hdec⟩ := List.append_of_mem hxx
        have hcnt : ((nd p.a).nx.take i).count xx.a < (nd xx.a).wt := by
          have h1 := count_take hy
          rw [HI.out.nxs X' xx Y' hdec p (by simp)] at h1
          have h2 := HI.out.wts X' xx Y' hdec
          have h3 := List.count_le_length (a := p) (l := srcs X' xx.ks)
          omega
        have hbig : (nd xx.a).wt ≤ 1000000000 := by
          have h2 := HI.out.wts X' xx Y' hdec
          have h3 := srcs_len X' xx.ks
          have h4 := HI.out.kl xx hxx
          have h5 := HI.out.Llen
          have h6 := HI.out.pub
          have h7 : X'.length ≤ (X ++ p :: Y).length := by rw [hdec]; simp
          have h8 : xx.ks.length * (X'.length + 1) ≤ 1000 * 901 := Nat.mul_le_mul h4 (by omega)
          omega
        have hfr := freed_c hnx (by rw [HND.out xx hxx]; dsimp only; omega) (by rw [HND.out xx hxx]; dsimp only; omega)
        have HFR := Lib.hid hfr
        have HY := Lib.hid (And.intro hy hxx)
        clear hy hxx hfr hcnt hbig hdec hnx hob hygg kgg
        go_wp2_with fail
        go_at_call 30
        refine HFR.out.mono ?_
        rintro e w4 ⟨rfl, k4, m4⟩
        have hnx := HG.out.nodes xx.a (List.mem_map.2 ⟨xx, HY.out.2, rfl⟩)
        have hG4 : GMem tag w4 g nb sb q ((X ++ p :: Y).map An.a) N S (upd nd1 xx.a { nd1 xx.a with wt := (nd1 xx.a).wt - 1 }) sp := by
          refine HG.out.node m4 (fun j b r e h => ?_) (fun _ _ => rfl) ?_
          · rw [h, hnx.ta] at e
            cases e
            exact ⟨rfl, by omega⟩
          · obtain ⟨es', cl', hk, M'⟩ := hnx.k
            refine ⟨k4, hnx.o.mod m4 (fun g hg e => ?_), ⟨es', cl', m4.at hk (fun e => ?_), M'⟩, hnx.ta, hnx.tk, hnx.tn⟩
            · have h1 := hnx.tn g hg
              rw [e, hnx.ta] at h1
              cases h1
            · have h1 := hnx.tk
              rw [e, hnx.ta] at h1
              cases h1
        have hnd4 : ∀ c ∈ X ++ p :: Y, upd nd1 xx.a { nd1 xx.a with wt := (nd1 xx.a).wt - 1 } c.a = { nd c.a with wt := (nd c.a).wt - ((nd p.a).nx.take (i + 1)).count c.a } := fun c hc => by
          rw [List.take_add_one, HY.out.1, Option.toList_some, List.count_append, List.count_singleton]
          by_cases e : c.a = xx.a
          · rw [e, upd_same, HND.out xx HY.out.2]
            simp [Nat.sub_sub]
          · rw [upd_ne _ _ e, HND.out c hc]
            have : ¬ xx.a = c.a := fun h => e h.symm
            simp [this]
        have HG4 := Lib.hid hG4
        have HN4 := Lib.hid hnd4
        have HM4 : Hid (Mod (fun j => ∃ c, tag j = some (c, 0)) w3 w4) := Lib.hid (HM1.out.then m4 (fun j _ e => ⟨xx.a, by rw [e]; exact hnx.ta⟩))
        clear hG4 hnd4 hnx m4 k4
        go_wp2_with fail
        go_roundw
        case rel => exact ⟨i + 1, _, by omega, by go_num, HG4, HN4, HM4⟩
        case measure => simp [intOf]; omega
      · obtain rfl : i = ln := by omega
        have hnd1 : ∀ c ∈ X ++ p :: Y, nd1 c.a = { nd c.a with wt := (nd c.a).wt - (nd p.a).nx.count c.a } := fun c hc => by
          rw [HND.out c hc, ← HLN.out, List.take_length]
        have HND1 := Lib.hid hnd1
        have k5 : wr.heap[p5]? = some (.cells #[ptrV p.a] 62 (0, 0)) := HM1.out.at kp5 (fun ⟨c, e⟩ => by
          rw [H5.out] at e
          cases e)
        have hnp := HG.out.nodes p.a (List.mem_map.2 ⟨p, by simp, rfl⟩)
        have kpa := hnp.c
        unfold nrc at kpa
        rw [hnd1 p (by simp)] at kpa
        dsimp only at kpa
        obtain ⟨es1, cl1, kmb, hMK⟩ := hnp.k
        rw [hnd1 p (by simp)] at kmb hMK
        dsimp only at kmb hMK
        rw [(HI.out.nds p (by simp)).2.2.2] at hMK
        have HMK := Lib.hid hMK
        have hrg := run_range_map (P := Try.prog) wr 63 23 3 (nd p.a).kb es1 cl1 Try.underlying63 kmb
        have htk : tag (nd p.a).kb = some (p.a, 1) := HN.out.tk
        have HTK := Lib.hid htk
        clear hnp hnd1 hMK htk
        generalize (nd p.a).kb = kb2 at *
        go_wp2_with fail
        obtain ⟨w6, e6, r, hr6, kr, m6⟩ : ∃ w6, wr.alloc (.mapIter (some kb2) cl1 #[] cl1) = w6 ∧ ∃ r, wr.heap.size = r ∧ w6.heap[r]? = some (.mapIter (some kb2) cl1 #[] cl1) ∧ Mod (fun _ => False) wr w6 := ⟨_, rfl, _, rfl, heap_alloc_new _ _, (Mod.refl _ _).alloc _⟩
        rw [e6, hr6]
        have L5 := lt_size k5
        have htr : tag r = none := by
          cases e : tag r with
          | none => rfl
          | some z =>
            have h1 := HO.out.2 r (HO.out.1 r (by rw [e]; simp))
            have h2 := HM1.out.size
            have h3 := HM3.out.size
            omega
        have HTR := Lib.hid htr
        have HRN : Hid (w2.heap.size ≤ r) := Lib.hid (by
          have h2 := HM1.out.size
          have h3 := HM3.out.size
          omega)
        have HG6 : Hid (GMem tag w6 g nb sb q ((X ++ p :: Y).map An.a) N S nd1 sp) := Lib.hid (HG.out.mod m6 (fun _ _ h => h))
        have HM6 : Hid (Mod T w2 w6) := Lib.hid ((((HM3.out.mono (fun _ _ h => h.elim)).then HM1.out (fun j hj ⟨c, e⟩ => HO.out.1 j (by rw [e]; simp))).then0 m6))
        have k56 := m6.at0 k5
        have kmb6 := m6.at0 kmb
        have n5r : p5 ≠ r := by omega
        have hit := IterAt.start HMK.out kr
        clear hrg htr k5 kmb kpa kr m6 L5 e6 hr6 HM1 HG
        go_loopw [49] (fun s49 ws => ∃ (D rem : List (Key × Bool)) (sp1 : Nat → Sr), Hid (GMem tag ws g nb sb q ((X ++ p :: Y).map An.a) N S nd1 sp1) ∧ Hid (∀ k s, lkp k S = some s → ((∃ h, (k, h) ∈ D) → goneS p.a (sp s) (sp1 s)) ∧ ((∀ h, (k, h) ∉ D) → sp1 s = sp s)) ∧ Hid ((D ++ rem).Perm p.ks) ∧ IterAt ws r kb2 kv bv es1 cl1 rem ∧ ws.heap[kb2]? = some (.map es1 cl1) ∧ ws.heap[p5]? = some (.cells #[ptrV p.a] 62 (0, 0)) ∧ Hid (Mod T w2 ws)) (fun _ ws => leftN ws r kb2)
        case atStart => exact ⟨[], p.ks, sp, HG6, Lib.hid (fun k s _ => ⟨fun ⟨h, hh⟩ => (by cases hh), fun _ => rfl⟩), Lib.hid (by simp), hit, kmb6, k56, HM6⟩
        case round =>
          clear hit kmb6 k56
          obtain ⟨D, rem, sp1, HGr, HSP, HPM, hit, kmb, k5, HMr⟩ := hrel
          have hmeas := hit.leftN kmb
          have HL2 := Lib.hid hmeas
          clear hmeas
          have kg := HGr.out.c
          rcases hit.next (P := Try.prog) HMK.out kmb 0 with ⟨rfl, hrun⟩ | ⟨z, rem', w7, it, hperm, hrun, kr3, m3, kb3, hent⟩
          · obtain ⟨es3, cl3, knb, hMN⟩ := HGr.out.kn
            have HMN := Lib.hid hMN
            have ng : g ≠ nb := ne_of_obj kg knb (by simp)
            clear hMN hit kmb HL2 k5
            go_upto_region 21 with fail
            have Lkg := lt_size kg
            have Lknb := lt_size knb
            refine wp_pass0 (C := fun _ _ _ => False) (κ := fun i => [0, 0, 0, 1, 0, 5].getD i 0) [0, 1, 2, 3, 4, 5] (by kernel_rfl) (by kernel_rfl) (fun _ _ d _ _ h => by cases d <;> first | exact h | exact absurd h (hP _ _ _)) ?_
            (refine TD.val0 (v := ?v17) (by simp only [List.getElem?_toArray, List.getElem?_cons_succ, List.getElem?_cons_zero]; rfl) rfl ?hw17 (fun w1 => ?hy17) ?hn17; (case hw17 => rfl); (case hy17 => (go_simp; (try with_reducible rfl))); (try simp only [Act.put, List.setIfInBounds_toArray, List.set_cons_zero, List.set_cons_succ]))
            (refine TD.val0 (v := ?v18) (by simp only [List.getElem?_toArray, List.getElem?_cons_succ, List.getElem?_cons_zero]; rfl) rfl ?hw18 (fun w1 => ?hy18) ?hn18; (case hw18 => rfl); (case hy18 => (go_simp; (try with_reducible rfl))); (try simp only [Act.put, List.setIfInBounds_toArray, List.set_cons_zero, List.set_cons_succ]))
            (refine TD.val0 (v := ?v19) (by simp only [List.getElem?_toArray, List.getElem?_cons_succ, List.getElem?_cons_zero]; rfl) rfl ?hw19 (fun w1 => ?hy19) ?hn19; (case hw19 => rfl); (case hy19 => (go_simp; (try with_reducible rfl))); (try simp only [Act.put, List.setIfInBounds_toArray, List.set_cons_zero, List.set_cons_succ]))
            (refine TD.load (v := ?v20) (p := ?p20) (Mod.refl _ _) (by simp only [List.getElem?_toArray, List.getElem?_cons_succ, List.getElem?_cons_zero]; rfl) rfl ?hw20 rfl ?hx20 (fun wq hSq => ?hy20) ?hn20; (case hw20 => rfl); (case hx20 => (simp only [Act.eval, Array.getD_eq_getD_getElem?, List.getElem?_toArray, List.getElem?_cons_succ, List.getElem?_cons_zero, Option.getD_some]; (try rfl))); (case hy20 => (have kgq := hSq.at kg (fun h => h); have knbq := hSq.at knb (fun h => h); go_simp; (try with_reducible rfl))); (try simp only [Act.put, List.setIfInBounds_toArray, List.set_cons_zero, List.set_cons_succ]))
            (refine TD.val0 (v := ?v21) (by simp only [List.getElem?_toArray, List.getElem?_cons_succ, List.getElem?_cons_zero]; rfl) rfl ?hw21 (fun w1 => ?hy21) ?hn21; (case hw21 => rfl); (case hy21 => (go_simp; (try with_reducible rfl))); (try simp only [Act.put, List.setIfInBounds_toArray, List.set_cons_zero, List.set_cons_succ]))
            refine TD.eff (by simp only [List.getElem?_toArray, List.getElem?_cons_succ, List.getElem?_cons_zero]; rfl) rfl (fun wE hr => ?_)
            have kg := hr.mod.at0 kg
            have knb := hr.mod.at0 knb
            have mE := hr.mod
            obtain ⟨es22, hrun22, Mknb⟩ := HMN.out.delete idT Try.underlying52 wE knb id
            (refine eff_delete (X := ?X22) (Y := ?Y22) (v := ?v22) (w' := ?w22) (by simp only [List.getElem?_toArray, List.getElem?_cons_succ, List.getElem?_cons_zero]; rfl) ?hw22 rfl ?hx22 ?hz22 ?hy22 ?hn22; (case hw22 => rfl); (case hx22 => (simp only [Act.eval, Array.getD_eq_getD_getElem?, List.getElem?_toArray, List.getElem?_cons_succ, List.getElem?_cons_zero, Option.getD_some]; (try rfl))); (case hz22 => (simp only [Act.eval, Array.getD_eq_getD_getElem?, List.getElem?_toArray, List.getElem?_cons_succ, List.getElem?_cons_zero, Option.getD_some]; (try rfl))); (case hy22 => exact hrun22))
            (first | refine TE.nil_set knb (fun w9 knb mS => ?_) | refine TE.nil_setCell knb (fun w9 knb mS => ?_))
            (try simp only [Array.setIfInBounds, List.setIfInBounds_toArray, List.set_cons_zero, List.set_cons_succ] at knb)
            have kg := mS.at_ne kg (by omega)
            have m9 : Mod (fun i => i = nb) wr w9 := (mE.mono (fun _ _ h => h.elim)).then mS (fun _ _ h => h)
            have HMk := Lib.hid Mknb
            clear mE mS hr Mknb
            go_wp2_with fail
            go_ret
            have hTnb : T nb := HO.out.1 nb (by rw [HGr.out.tnb]; simp)
            have hP : PopSp p S sp sp1 := fun k s hs => by
              have h1 := HSP.out k s hs
              have hp := HPM.out
              rw [List.append_nil] at hp
              exact ⟨fun ⟨h, hh⟩ => h1.1 ⟨h, hp.mem_iff.2 hh⟩, fun hh => h1.2 (fun h h2 => hh h (hp.mem_iff.1 h2))⟩
            have hid : p.id = id := HD.out
            have hI := HI.out.pop HM.out.nodup H0.out (fun c hc => HND1.out c (mem_mid hc)) hP
            rw [hid] at hI
            refine .inr ⟨rfl, ?_, ⟨tag, nb, sb, X ++ Y, del id N, S, nd1, sp1, ?_, hI, by rw [List.map_append], HO.out.1⟩, HMr.out.then m9 (fun j hj e => by rw [e]; exact hTnb)⟩
            · intro y hy
              first
              | exact (srcs_nil_iff (HI.out.kn p (by simp))).1 H0.out y hy
              | (obtain ⟨z, hz, rfl⟩ := List.mem_map.1 hy
                 exact (srcs_nil_iff (HI.out.kn p (by simp))).1 H0.out z hz)
            · refine (HGr.out.ids m9 ⟨_, _, knb, HMk.out⟩).fewer (fun a ha => ?_)
              obtain ⟨c, hc, rfl⟩ := List.mem_map.1 ha
              exact List.mem_map.2 ⟨c, mem_mid hc, rfl⟩
          · obtain ⟨k, h⟩ := z
            obtain ⟨hv, hv1⟩ : ∃ hv : Int, bv h = .int .i64 hv := ⟨_, rfl⟩
            dsimp only at hrun hent
            rw [hv1] at hrun
            simp only [hv1] at hent
            have hpm := perm_new HPM.out hperm
            have hlen : rem'.length < rem.length := by rw [hperm.length_eq]; simp
            have hnr : tag r = none := HTR.out
            have hG7 : GMem tag w7 g nb sb q ((X ++ p :: Y).map An.a) N S nd1 sp1 := HGr.out.mod m3 (fun j hj e => hj (by rw [e]; exact hnr))
            have hM7 : Mod T w2 w7 := HMr.out.then m3 (fun j hj e => by
              have h1 := HRN.out
              omega)
            have kg7 := hG7.c
            have k57 := m3.at_ne k5 n5r
            obtain ⟨es2, cl2, ksb, hMS⟩ := hG7.ks
            have hin : (k, h) ∈ p.ks := hpm.mem_iff.1 (by simp)
            have hsome : ∃ s, lkp k S = some s := by
              cases e : lkp k S with
              | some s => exact ⟨s, rfl⟩
              | none =>
                exfalso
                have h1 := (HI.out.sps k).2 e
                have h2 := how_mem (HI.out.kn p (by simp)) hin
                dsimp only at h2
                cases h with
                | true =>
                  have h3 := spotOf_has_writer (k := k) (show p ∈ X ++ p :: Y by simp) h2
                  rw [h1] at h3
                  exact h3 rfl
                | false =>
                  have h3 := spotOf_has_reader (k := k) (show p ∈ X ++ p :: Y by simp) h2
                  rw [h1] at h3
                  rcases h3 with h3 | h3
                  · exact h3 rfl
                  · cases h3
            obtain ⟨s, hks⟩ := hsome
            have hlk : ∀ wq, Mod (fun _ => False) w7 wq → (Instr.lookup 53 (.map (some sb)) (.agg (kc k)) false).run Try.prog wq = .ok (ptrV s) wq := fun wq hq => by
              have h1 := hMS.lookup keyT Try.underlying53 (z := .pointer none) (fun w => by kernel_rfl) wq (hq.at0 ksb) k false
              rw [hks] at h1
              exact h1
            have HLK := Lib.hid hlk
            have HEn := Lib.hid hent
            have HP := Lib.hid (And.intro hpm hlen)
            have HG7 := Lib.hid hG7
            have HM7 := Lib.hid hM7
            have HKS := Lib.hid hks
            have hE2 : ∀ wq, Mod (fun _ => False) w7 wq → (Instr.entry (.pointer (some ⟨r, 0, none⟩))).run Try.prog wq = .ok (.tuple #[.agg (kc k), .int .i64 hv]) wq := fun wq hm => (hent wq (hm.at0 kr3) (hm.at0 kb3)).1
            have HE2 := Lib.hid hE2
            have hrun2 : (Instr.next (.pointer (some ⟨r, 0, none⟩)) false 0).run Try.prog wr = .ok (.tuple #[.bool true, .agg (kc k), .int .i64 hv]) w7 := hrun
            clear hlk hent hG7 hpm hlen hMS hE2 hrun hit kmb k5 kg m3 hperm hv1 hin hks hnr hM7
            go_upto_region 16 with fail
            have hent2 := HE2.out
            have Lkg7 := lt_size kg7
            have Lk57 := lt_size k57
            have Lkr3 := lt_size kr3
            have Lkb3 := lt_size kb3
            have Lksb := lt_size ksb
            refine wp_pass0 (C := fun _ _ _ => False) (κ := fun i => [1, 0, 3, 4].getD i 0) [0, 1, 2, 3] (by kernel_rfl) (by kernel_rfl) (fun _ _ d _ _ h => by cases d <;> first | exact h | exact absurd h (hP _ _ _)) ?_
            (refine TD.entry (v := ?v23) (p := ?p23) (Mod.refl _ _) (by simp only [List.getElem?_toArray, List.getElem?_cons_succ, List.getElem?_cons_zero]; rfl) rfl ?hw23 rfl ?hx23 (fun wq hSq => ?hy23) ?hn23; (case hw23 => rfl); (case hx23 => (simp only [Act.eval, Array.getD_eq_getD_getElem?, List.getElem?_toArray, List.getElem?_cons_succ, List.getElem?_cons_zero, Option.getD_some]; (try rfl))); (case hy23 => (rw [hent2 wq hSq]; (try with_reducible rfl))); (try simp only [Act.put, List.setIfInBounds_toArray, List.set_cons_zero, List.set_cons_succ]))
            (refine TD.val0 (v := ?v24) (by simp only [List.getElem?_toArray, List.getElem?_cons_succ, List.getElem?_cons_zero]; rfl) rfl ?hw24 (fun w1 => ?hy24) ?hn24; (case hw24 => rfl); (case hy24 => (go_simp; (try with_reducible rfl))); (try simp only [Act.put, List.setIfInBounds_toArray, List.set_cons_zero, List.set_cons_succ]))
            (refine TD.allocB (by simp only [List.getElem?_toArray, List.getElem?_cons_succ, List.getElem?_cons_zero]; rfl) rfl ?hw25 rfl rfl alKey (fun p9 hp9 => ?hn25); (case hw25 => rfl); (try simp only [Act.put, List.setIfInBounds_toArray, List.set_cons_zero, List.set_cons_succ]))
            (refine TD.storeB (d := ?d26) (T := ?T26) (y := ?y26) (p := ?p26) (b := ?b26) (v := ?v26) (by simp only [List.getElem?_toArray, List.getElem?_cons_succ, List.getElem?_cons_zero]; rfl) rfl ?hw26 ?hd26 ?hop26 ?hev26 ?hx26 ?hb26 ?htag26 (fun w1 hb1 => ?hy26) ?hn26; (case hw26 => rfl); (case hd26 => rfl); (case hop26 => rfl); (case hev26 => (simp only [Act.eval, Array.getD_eq_getD_getElem?, List.getElem?_toArray, List.getElem?_cons_succ, List.getElem?_cons_zero, Option.getD_some]; (try rfl))); (case hx26 => (simp only [Act.eval, Array.getD_eq_getD_getElem?, List.getElem?_toArray, List.getElem?_cons_succ, List.getElem?_cons_zero, Option.getD_some]; (try rfl))); (case hb26 => first | exact Bx.set_same _ _ _ | (simp only [Bx.set_same]; rfl)); (case hy26 => (go_simp; (try first | with_reducible rfl | (rw [setCell_blk hb1]; rfl)))); (try simp only [Act.put, List.setIfInBounds_toArray, List.set_cons_zero, List.set_cons_succ]))
            refine TD.nil (fun w8 hr => ?_)
            have kg7 := hr.mod.at kg7 (fun h => h)
            have k57 := hr.mod.at k57 (fun h => h)
            have kr3 := hr.mod.at kr3 (fun h => h)
            have kb3 := hr.mod.at kb3 (fun h => h)
            have ksb := hr.mod.at ksb (fun h => h)
            have kp9 := hr.box p9 _ (by first | exact Bx.set_same _ _ _ | (simp only [Bx.set_same]; rfl)); dsimp only [Value.cells] at kp9; obtain ⟨gp9, kp9⟩ := kp9
            have m8 := hr.mod
            clear hr hent2
            go_upto_region 17 with fail
            have hlk : ∀ wq, Mod (fun _ => False) w8 wq → (Instr.lookup 53 (.map (some sb)) (.agg (kc k)) false).run Try.prog wq = .ok (ptrV s) wq := fun wq hq => HLK.out wq (m8.then0 hq)
            have Lkg7 := lt_size kg7
            have Lk57 := lt_size k57
            have Lkr3 := lt_size kr3
            have Lkb3 := lt_size kb3
            have Lkp9 := lt_size kp9
            refine wp_pass (C := fun _ _ _ => False) (κ := fun i => [0, 0, 0, 1, 1, 1, 0].getD i 0) [0, 1, 2, 3, 4, 5, 6] (by kernel_rfl) (by kernel_rfl) (fun _ _ d _ _ h => by cases d <;> first | exact h | exact absurd h (hP _ _ _)) ?_
            (refine TD.val0 (v := ?v27) (by simp only [List.getElem?_toArray, List.getElem?_cons_succ, List.getElem?_cons_zero]; rfl) rfl ?hw27 (fun w1 => ?hy27) ?hn27; (case hw27 => rfl); (case hy27 => (go_simp; (try with_reducible rfl))); (try simp only [Act.put, List.setIfInBounds_toArray, List.set_cons_zero, List.set_cons_succ]))
            (refine TD.val0 (v := ?v28) (by simp only [List.getElem?_toArray, List.getElem?_cons_succ, List.getElem?_cons_zero]; rfl) rfl ?hw28 (fun w1 => ?hy28) ?hn28; (case hw28 => rfl); (case hy28 => (go_simp; (try with_reducible rfl))); (try simp only [Act.put, List.setIfInBounds_toArray, List.set_cons_zero, List.set_cons_succ]))
            (refine TD.val0 (v := ?v29) (by simp only [List.getElem?_toArray, List.getElem?_cons_succ, List.getElem?_cons_zero]; rfl) rfl ?hw29 (fun w1 => ?hy29) ?hn29; (case hw29 => rfl); (case hy29 => (go_simp; (try with_reducible rfl))); (try simp only [Act.put, List.setIfInBounds_toArray, List.set_cons_zero, List.set_cons_succ]))
            (refine TD.load (v := ?v30) (p := ?p30) (Mod.refl _ _) (by simp only [List.getElem?_toArray, List.getElem?_cons_succ, List.getElem?_cons_zero]; rfl) rfl ?hw30 rfl ?hx30 (fun wq hSq => ?hy30) ?hn30; (case hw30 => rfl); (case hx30 => (simp only [Act.eval, Array.getD_eq_getD_getElem?, List.getElem?_toArray, List.getElem?_cons_succ, List.getElem?_cons_zero, Option.getD_some]; (try rfl))); (case hy30 => (have kg7q := hSq.at kg7 (fun h => h); have k57q := hSq.at k57 (fun h => h); have kr3q := hSq.at kr3 (fun h => h); have kb3q := hSq.at kb3 (fun h => h); have kp9q := hSq.at kp9 (fun h => h); go_simp; (try with_reducible rfl))); (try simp only [Act.put, List.setIfInBounds_toArray, List.set_cons_zero, List.set_cons_succ]))
            (refine TD.load (v := ?v31) (p := ?p31) (Mod.refl _ _) (by simp only [List.getElem?_toArray, List.getElem?_cons_succ, List.getElem?_cons_zero]; rfl) rfl ?hw31 rfl ?hx31 (fun wq hSq => ?hy31) ?hn31; (case hw31 => rfl); (case hx31 => (simp only [Act.eval, Array.getD_eq_getD_getElem?, List.getElem?_toArray, List.getElem?_cons_succ, List.getElem?_cons_zero, Option.getD_some]; (try rfl))); (case hy31 => (have kg7q := hSq.at kg7 (fun h => h); have k57q := hSq.at k57 (fun h => h); have kr3q := hSq.at kr3 (fun h => h); have kb3q := hSq.at kb3 (fun h => h); have kp9q := hSq.at kp9 (fun h => h); go_simp; (try with_reducible rfl))); (try simp only [Act.put, List.setIfInBounds_toArray, List.set_cons_zero, List.set_cons_succ]))
            (refine TD.lookup (v := ?v32) (p := ?p32) (q := ?q32) (Mod.refl _ _) (by simp only [List.getElem?_toArray, List.getElem?_cons_succ, List.getElem?_cons_zero]; rfl) rfl ?hw32 rfl ?hx32 ?hz32 (fun wq hSq => ?hy32) ?hn32; (case hw32 => rfl); (case hx32 => (simp only [Act.eval, Array.getD_eq_getD_getElem?, List.getElem?_toArray, List.getElem?_cons_succ, List.getElem?_cons_zero, Option.getD_some]; (try rfl))); (case hz32 => (simp only [Act.eval, Array.getD_eq_getD_getElem?, List.getElem?_toArray, List.getElem?_cons_succ, List.getElem?_cons_zero, Option.getD_some]; (try rfl))); (case hy32 => (rw [hlk wq hSq]; (try with_reducible rfl))); (try simp only [Act.put, List.setIfInBounds_toArray, List.set_cons_zero, List.set_cons_succ]))
            (refine TD.val0 (v := ?v33) (by simp only [List.getElem?_toArray, List.getElem?_cons_succ, List.getElem?_cons_zero]; rfl) rfl ?hw33 (fun w1 => ?hy33) ?hn33; (case hw33 => rfl); (case hy33 => (go_simp; (try with_reducible rfl))); (try simp only [Act.put, List.setIfInBounds_toArray, List.set_cons_zero, List.set_cons_succ]))
            refine TD.nil (fun w9 hr => ?_)
            have kg7 := hr.mod.at kg7 (fun h => h)
            have k57 := hr.mod.at k57 (fun h => h)
            have kr3 := hr.mod.at kr3 (fun h => h)
            have kb3 := hr.mod.at kb3 (fun h => h)
            have kp9 := hr.mod.at kp9 (fun h => h)
            have m9 := m8.then0 hr.mod
            have HM9 := Lib.hid m9
            have hG9 : GMem tag w9 g nb sb q ((X ++ p :: Y).map An.a) N S nd1 sp1 := HG7.out.mod m9 (fun _ _ h => h)
            clear hr hlk m8 m9
            have HG9 := Lib.hid hG9
            have hspt := hG9.spots (k, s) (lkp_mem HKS.out)
            have ksp := hspt.c
            unfold src at ksp
            have hspo := hspt.o
            obtain ⟨ad2, c2, e2, -, -, -⟩ := hspo.at ptrT
            have hnin : ∀ b, (k, b) ∉ D := perm_not HP.out.1 (HI.out.kn p (by simp))
            have hsps : SpIs (sp1 s) (spotOf k (X ++ p :: Y)) := by
              rw [(HSP.out k s HKS.out).2 hnin]
              exact ((HI.out.sps k).1 s HKS.out)
            have hIs : ∀ wq, Mod (fun _ => False) w9 wq → ∀ c ∈ X ++ p :: Y, IsNd wq c.a := fun wq hq c hc => ⟨_, hq.at0 (hG9.nodes c.a (List.mem_map.2 ⟨c, hc, rfl⟩)).c⟩
            have heq : ∀ wq, Mod (fun _ => False) w9 wq → (binOp .eql 62 (opV (sp1 s).wr) (ptrV p.a)).run Try.prog wq = .ok (.bool (decide ((sp1 s).wr = some p.a))) wq := fun wq hq => eqNodeO (fun c hc => by
              rw [hsps.1] at hc
              cases e : (spotOf k (X ++ p :: Y)).1 with
              | none => rw [e] at hc; cases hc
              | some x =>
                rw [e] at hc
                cases hc
                exact hIs wq hq x (spotOf_writer e).1) (hIs wq hq p (by simp))
            have HSS := Lib.hid (And.intro hsps hnin)
            have HZ := Lib.hid hspt
            have HIs := Lib.hid hIs
            have hwl : (sp1 s).rs.length ≤ 1000 := by
              have h1 := congrArg List.length hsps.2
              rw [List.length_map] at h1
              have h2 := spot_len k (X ++ p :: Y)
              have h3 := HI.out.Llen
              have h4 := HI.out.pub
              omega
            have HWL := Lib.hid hwl
            have HE2 := Lib.hid e2
            rw [e2] at ksp
            clear hspt hspo hnin hsps hIs hwl e2 hG9
            generalize hwq : (sp1 s).wr = wo at *
            have HWO := Lib.hid hwq
            clear hwq
            go_upto_region 18 with fail
            have Lksp := lt_size ksp
            have Lk57 := lt_size k57
            have Lkr3 := lt_size kr3
            have Lkb3 := lt_size kb3
            refine wp_pass (C := fun _ _ _ => False) (κ := fun i => [0, 0, 0, 1, 1, 1].getD i 0) [0, 1, 2, 3, 4, 5] (by kernel_rfl) (by kernel_rfl) (fun _ _ d _ _ h => by cases d <;> first | exact h | exact absurd h (hP _ _ _)) ?_
            (refine TD.val0 (v := ?v34) (by simp only [List.getElem?_toArray, List.getElem?_cons_succ, List.getElem?_cons_zero]; rfl) rfl ?hw34 (fun w1 => ?hy34) ?hn34; (case hw34 => rfl); (case hy34 => (go_simp; (try with_reducible rfl))); (try simp only [Act.put, List.setIfInBounds_toArray, List.set_cons_zero, List.set_cons_succ]))
            (refine TD.val0 (v := ?v35) (by simp only [List.getElem?_toArray, List.getElem?_cons_succ, List.getElem?_cons_zero]; rfl) rfl ?hw35 (fun w1 => ?hy35) ?hn35; (case hw35 => rfl); (case hy35 => (go_simp; (try with_reducible rfl))); (try simp only [Act.put, List.setIfInBounds_toArray, List.set_cons_zero, List.set_cons_succ]))
            (refine TD.val0 (v := ?v36) (by simp only [List.getElem?_toArray, List.getElem?_cons_succ, List.getElem?_cons_zero]; rfl) rfl ?hw36 (fun w1 => ?hy36) ?hn36; (case hw36 => rfl); (case hy36 => (go_simp; (try with_reducible rfl))); (try simp only [Act.put, List.setIfInBounds_toArray, List.set_cons_zero, List.set_cons_succ]))
            (refine TD.load (v := ?v37) (p := ?p37) (Mod.refl _ _) (by simp only [List.getElem?_toArray, List.getElem?_cons_succ, List.getElem?_cons_zero]; rfl) rfl ?hw37 rfl ?hx37 (fun wq hSq => ?hy37) ?hn37; (case hw37 => rfl); (case hx37 => (simp only [Act.eval, Array.getD_eq_getD_getElem?, List.getElem?_toArray, List.getElem?_cons_succ, List.getElem?_cons_zero, Option.getD_some]; (try rfl))); (case hy37 => (have kspq := hSq.at ksp (fun h => h); have k57q := hSq.at k57 (fun h => h); have kr3q := hSq.at kr3 (fun h => h); have kb3q := hSq.at kb3 (fun h => h); go_simp; (try with_reducible rfl))); (try simp only [Act.put, List.setIfInBounds_toArray, List.set_cons_zero, List.set_cons_succ]))
            (refine TD.load (v := ?v38) (p := ?p38) (Mod.refl _ _) (by simp only [List.getElem?_toArray, List.getElem?_cons_succ, List.getElem?_cons_zero]; rfl) rfl ?hw38 rfl ?hx38 (fun wq hSq => ?hy38) ?hn38; (case hw38 => rfl); (case hx38 => (simp only [Act.eval, Array.getD_eq_getD_getElem?, List.getElem?_toArray, List.getElem?_cons_succ, List.getElem?_cons_zero, Option.getD_some]; (try rfl))); (case hy38 => (have kspq := hSq.at ksp (fun h => h); have k57q := hSq.at k57 (fun h => h); have kr3q := hSq.at kr3 (fun h => h); have kb3q := hSq.at kb3 (fun h => h); go_simp; (try with_reducible rfl))); (try simp only [Act.put, List.setIfInBounds_toArray, List.set_cons_zero, List.set_cons_succ]))
            (refine TD.eqP (v := ?v39) (pa := ?p39) (pb := ?q39) (Mod.refl _ _) (by simp only [List.getElem?_toArray, List.getElem?_cons_succ, List.getElem?_cons_zero]; rfl) rfl ?hw39 rfl ?hx39 ?hz39 (fun wq hSq => ?hy39) ?hn39; (case hw39 => rfl); (case hx39 => (simp only [Act.eval, Array.getD_eq_getD_getElem?, List.getElem?_toArray, List.getElem?_cons_succ, List.getElem?_cons_zero, Option.getD_some]; (try rfl))); (case hz39 => (simp only [Act.eval, Array.getD_eq_getD_getElem?, List.getElem?_toArray, List.getElem?_cons_succ, List.getElem?_cons_zero, Option.getD_some]; (try rfl))); (case hy39 => (rw [heq wq hSq]; (try with_reducible rfl))); (try simp only [Act.put, List.setIfInBounds_toArray, List.set_cons_zero, List.set_cons_succ]))
            refine TD.nil (fun w10 hr => ?_)
            have ksp := hr.mod.at ksp (fun h => h)
            have k57 := hr.mod.at k57 (fun h => h)
            have kr3 := hr.mod.at kr3 (fun h => h)
            have kb3 := hr.mod.at kb3 (fun h => h)
            have HM10 := Lib.hid hr.mod
            clear hr heq
            go_upto_if 63 with fail
            go_cut [] from 61 to 66 (fun wx => ∃ wo' : Option Nat, Hid (wo' = if wo = some p.a then none else wo) ∧ wx.heap[s]? = some (.cells #[opV wo', .slice ad2 (sp1 s).rs.length c2] 69 (0, 0)) ∧ wx.heap[r]? = some it ∧ wx.heap[kb2]? = some (.map es1 cl1) ∧ wx.heap[p5]? = some (.cells #[ptrV p.a] 62 (0, 0)) ∧ Hid (Mod (fun i => i = s) w9 wx))
            case first =>
              by_cases hwp : wo = some p.a
              · have hd := decide_eq_true hwp
                have HWP := Lib.hid hwp
                have hm11 : Mod (fun i => i = s) w9 (w10.setCell ⟨s, 0, none⟩ (.pointer none)) := (HM10.out.mono (fun _ _ h => h.elim)).setCell _ (fun _ => rfl)
                have k11 : (w10.setCell ⟨s, 0, none⟩ (.pointer none)).heap[s]? = some (.cells #[opV none, .slice ad2 (sp1 s).rs.length c2] 69 (0, 0)) := by
                  rw [setCell_blk ksp, heap_setBlock _ _ (lt_size ksp)]
                  rfl
                have ms : Mod (fun i => i = s) w10 (w10.setCell ⟨s, 0, none⟩ (.pointer none)) := (Mod.refl _ _).setCell _ (fun _ => rfl)
                have hrs : r ≠ s := fun e => by
                  have h1 := HZ.out.ta
                  rw [← e, HTR.out] at h1
                  cases h1
                have hks2 : kb2 ≠ s := fun e => by
                  have h1 := HZ.out.ta
                  rw [← e, HTK.out] at h1
                  cases h1
                have h5s : p5 ≠ s := fun e => by
                  have h1 := HZ.out.ta
                  rw [← e, H5.out] at h1
                  cases h1
                have HEND := Lib.hid (And.intro k11 (And.intro (ms.at_ne kr3 hrs) (And.intro (ms.at_ne kb3 hks2) (And.intro (ms.at_ne k57 h5s) hm11))))
                clear hwp k11 ms hm11 hrs hks2 h5s
                go_wp2_with fail
                go_meet
                exact ⟨none, Lib.hid (by rw [if_pos HWP.out]), HEND.out.1, HEND.out.2.1, HEND.out.2.2.1, HEND.out.2.2.2.1, Lib.hid HEND.out.2.2.2.2⟩
              · have hd := decide_eq_false hwp
                have HWP := Lib.hid hwp
                clear hwp
                go_wp2_with fail
                go_meet
                exact ⟨wo, Lib.hid (by rw [if_neg HWP.out]), ksp, kr3, kb3, k57, Lib.hid (HM10.out.mono (fun _ _ h => h.elim))⟩
            case rest =>
              clear ksp kr3 kb3 k57 HM10
              obtain ⟨wo', HWO', ksp, kr3, kb3, k57, HMC⟩ := hcut
              have hO : SlOwn pc 1 62 w9 0 (.slice ad2 (sp1 s).rs.length c2) (sp1 s).rs := by
                have h := HZ.out.o
                rw [HE2.out] at h
                exact h
              have ht4 := HZ.out.tr
              rw [HE2.out] at ht4
              have nTs : ¬ (Value.slice ad2 (sp1 s).rs.length c2).ownBlock = some s := fun e => by
                have h1 := ht4 _ e
                rw [HZ.out.ta] at h1
                cases h1
              have hOx := hO.mod HMC.out (fun b hb e => nTs (e ▸ hb))
              have nT5 : (Value.slice ad2 (sp1 s).rs.length c2).ownBlock ≠ some p5 := fun e => by
                have h1 := ht4 _ e
                rw [H5.out] at h1
                cases h1
              have hIx : ∀ c ∈ X ++ p :: Y, IsNd wc c.a := fun c hc => by
                obtain ⟨cs, hk⟩ := HIs.out w9 (Mod.refl _ _) c hc
                exact ⟨cs, HMC.out.at_ne hk (fun e => by
                  have h1 := HZ.out.c
                  rw [← e, hk] at h1
                  cases h1)⟩
              have hdel := deleteF_c hOx (by have := HWL.out; omega) p.a p5 k57 nT5 (hIx p (by simp)) (fun y hy => by
                rw [HSS.out.1.2] at hy
                obtain ⟨c, hc, rfl⟩ := List.mem_map.1 hy
                exact hIx c (spotOf_reader hc).1)
              have HDEL := Lib.hid hdel
              have HT4 := Lib.hid (And.intro ht4 (And.intro nTs nT5))
              clear hdel hO ht4 nTs nT5 hOx hIx
              go_wp2_with fail
              go_at_call 31
              refine HDEL.out.mono ?_
              rintro e w12 ⟨v', rfl, hO', m12, hob⟩
              obtain ⟨ad3, c3, rfl, -, -, -⟩ := hO'.at ptrT
              generalize hl3 : ((sp1 s).rs.filter fun y => decide (y ≠ p.a)).length = l3 at *
              have ht3 : ∀ g, (Value.slice ad3 l3 c3).ownBlock = some g → tag g = some (s, 4) := fun g hg => HT4.out.1 g (by rw [← hob]; exact hg)
              have hno : ∀ j o, tag j = o → o ≠ some (s, 4) → ¬ (Value.slice ad2 (sp1 s).rs.length c2).ownBlock = some j := fun j o e hne h => hne (by rw [← e]; exact HT4.out.1 _ h)
              have kr12 := m12.at kr3 (hno _ _ HTR.out (by simp))
              have kb12 := m12.at kb3 (hno _ _ HTK.out (by simp))
              have k512 := m12.at k57 (hno _ _ H5.out (by simp))
              have ks12 := m12.at ksp (hno _ _ HZ.out.ta (by simp))
              have HO' := Lib.hid (And.intro hO' (And.intro ht3 hl3))
              have HM12 := Lib.hid m12
              have HNO := Lib.hid hno
              clear hO' ht3 m12 hob hno hl3 kr3 kb3 k57 ksp
              go_wp2_with fail
              have ms : Mod (fun i => i = s) w12 (w12.setCell ⟨s, 1, none⟩ (.slice ad3 l3 c3)) := (Mod.refl _ _).setCell _ (fun _ => rfl)
              have ksf : (w12.setCell ⟨s, 1, none⟩ (.slice ad3 l3 c3)).heap[s]? = some (.cells #[opV wo', .slice ad3 l3 c3] 69 (0, 0)) := by
                rw [setCell_blk ks12, heap_setBlock _ _ (lt_size ks12)]
                rfl
              generalize w12.setCell ⟨s, 1, none⟩ (.slice ad3 l3 c3) = wf at *
              have hrs : r ≠ s := fun e => by
                have h1 := HZ.out.ta
                rw [← e, HTR.out] at h1
                cases h1
              have hks2 : kb2 ≠ s := fun e => by
                have h1 := HZ.out.ta
                rw [← e, HTK.out] at h1
                cases h1
              have h5s : p5 ≠ s := fun e => by
                have h1 := HZ.out.ta
                rw [← e, H5.out] at h1
                cases h1
              have krf := ms.at_ne kr12 hrs
              have kbf := ms.at_ne kb12 hks2
              have k5f := ms.at_ne k512 h5s
              have hmf : Mod (fun i => i = s ∨ (Value.slice ad2 (sp1 s).rs.length c2).ownBlock = some i) w9 wf := ((HMC.out.mono (fun _ _ e => .inl e)).then (HM12.out.mono (fun _ _ e => .inr e)) (fun _ _ e => e)).then (ms.mono (fun _ _ e => .inl e)) (fun _ _ e => e)
              have hTs : T s := HO.out.1 s (by rw [HZ.out.ta]; simp)
              have hof := HO'.out.1.mod ms (fun g hg e => by
                have h1 := HO'.out.2.1 g hg
                rw [e, HZ.out.ta] at h1
                cases h1)
              have hGf : GMem tag wf g nb sb q ((X ++ p :: Y).map An.a) N S nd1 (upd sp1 s ⟨wo', .slice ad3 l3 c3, (sp1 s).rs.filter fun y => decide (y ≠ p.a)⟩) := by
                refine HG9.out.spot hmf (fun i c r' e h => ?_) (fun _ _ => rfl) ⟨ksf, hof, HZ.out.ta, HO'.out.2.1⟩
                rcases h with h | h
                · rw [h, HZ.out.ta] at e
                  cases e
                  exact ⟨rfl, by omega, by omega⟩
                · rw [HT4.out.1 i h] at e
                  cases e
                  exact ⟨rfl, by omega, by omega⟩
              have hMf : Mod T w2 wf := (HM7.out.then0 HM9.out).then hmf (fun i hi h => by
                rcases h with h | h
                · rw [h]; exact hTs
                · exact HO.out.1 i (by rw [HT4.out.1 i h]; simp))
              have hSPf : ∀ k' s', lkp k' S = some s' → ((∃ h', (k', h') ∈ D ++ [(k, h)]) → goneS p.a (sp s') (upd sp1 s ⟨wo', .slice ad3 l3 c3, (sp1 s).rs.filter fun y => decide (y ≠ p.a)⟩ s')) ∧ ((∀ h', (k', h') ∉ D ++ [(k, h)]) → upd sp1 s ⟨wo', .slice ad3 l3 c3, (sp1 s).rs.filter fun y => decide (y ≠ p.a)⟩ s' = sp s') := fun k' s' hs' => by
                have hsame : sp1 s = sp s := (HSP.out k s HKS.out).2 HSS.out.2
                by_cases e : k' = k
                · subst e
                  obtain rfl : s' = s := by
                    have := HKS.out
                    rw [hs'] at this
                    exact Option.some.inj this
                  rw [upd_same]
                  refine ⟨fun _ => ⟨?_, ?_⟩, fun hn => absurd (by simp) (hn h)⟩
                  · show wo' = _
                    rw [HWO'.out, ← HWO.out, hsame]
                  · show List.filter _ (sp1 s').rs = _
                    rw [hsame]
                · have hne : s' ≠ s := fun e2 => e (lkp_inj HI.out.sn hs' (e2 ▸ HKS.out))
                  rw [upd_ne _ _ hne]
                  have h1 := HSP.out k' s' hs'
                  refine ⟨fun ⟨h', hh⟩ => h1.1 ⟨h', ?_⟩, fun hn => h1.2 (fun h' hh => hn h' (List.mem_append_left _ hh))⟩
                  rcases List.mem_append.1 hh with hh | hh
                  · exact hh
                  · simp at hh
                    exact absurd hh.1 e
              have HFIN := Lib.hid (And.intro hGf (And.intro hSPf hMf))
              have HIT := Lib.hid (HEn.out wf krf kbf).2
              clear hGf hSPf hMf hof hmf hTs krf ms ksf hrs hks2 h5s kr12 kb12 k512 ks12
              have hm2 := (HIT.out).leftN kbf
              have hm3 := HL2.out
              have hm4 := HP.out.2
              have HMS2 : Hid (leftN wf r kb2 < leftN wr r kb2) := Lib.hid (by rw [hm2, hm3]; exact hm4)
              clear hm2 hm3 hm4
              go_roundw
              case rel => exact ⟨D ++ [(k, h)], rem', _, Lib.hid HFIN.out.1, Lib.hid HFIN.out.2.1, Lib.hid HP.out.1, HIT.out, kbf, k5f, Lib.hid HFIN.out.2.2⟩
              case measure => exact HMS2.out
  · have hwp : 0 < (nd p.a).wt := by
      rw [hwt]
      exact List.length_pos_iff.2 h0
    have hd : decide ((0 : Int) < ((nd p.a).wt : Int)) = true := decide_eq_true (by omega)
    have hd2 : decide (0 < (nd p.a).wt) = true := decide_eq_true hwp
    have HB := Lib.hid (show ∃ y ∈ X.map An.cn, HitC y p.cn from by
      refine Classical.byContradiction fun hn => h0 ((srcs_nil_iff hkn).2 fun y hy hh => hn ⟨y.cn, List.mem_map.2 ⟨y, hy, rfl⟩, hh⟩))
    clear H I hO M hlk hsome hid hnp hwt hkn hpL h0 hwp
    go_enter Try.func16, Try.ntmps16
    go_wp2_with fail
    go_at_call 23
    refine (there_c kh).mono ?_
    rintro e w2 ⟨rfl, rfl⟩
    have hlk2 := HL.out
    go_upto_region 3 with fail
    have Lkh := lt_size kh
    have Lkp := lt_size kp
    refine wp_pass0 (C := fun _ _ _ => False) (κ := fun i => [0, 0, 0, 1, 0, 1, 3, 4].getD i 0) [0, 1, 2, 3, 4, 5, 6, 7] (by kernel_rfl) (by kernel_rfl) (fun _ _ d _ _ h => by cases d <;> first | exact h | exact absurd h (hP _ _ _)) ?_
    (refine TD.val0 (v := ?v40) (by simp only [List.getElem?_toArray, List.getElem?_cons_succ, List.getElem?_cons_zero]; rfl) rfl ?hw40 (fun w1 => ?hy40) ?hn40; (case hw40 => rfl); (case hy40 => (go_simp; (try with_reducible rfl))); (try simp only [Act.put, List.setIfInBounds_toArray, List.set_cons_zero, List.set_cons_succ]))
    (refine TD.val0 (v := ?v41) (by simp only [List.getElem?_toArray, List.getElem?_cons_succ, List.getElem?_cons_zero]; rfl) rfl ?hw41 (fun w1 => ?hy41) ?hn41; (case hw41 => rfl); (case hy41 => (go_simp; (try with_reducible rfl))); (try simp only [Act.put, List.setIfInBounds_toArray, List.set_cons_zero, List.set_cons_succ]))
    (refine TD.val0 (v := ?v42) (by simp only [List.getElem?_toArray, List.getElem?_cons_succ, List.getElem?_cons_zero]; rfl) rfl ?hw42 (fun w1 => ?hy42) ?hn42; (case hw42 => rfl); (case hy42 => (go_simp; (try with_reducible rfl))); (try simp only [Act.put, List.setIfInBounds_toArray, List.set_cons_zero, List.set_cons_succ]))
    (refine TD.load (v := ?v43) (p := ?p43) (Mod.refl _ _) (by simp only [List.getElem?_toArray, List.getElem?_cons_succ, List.getElem?_cons_zero]; rfl) rfl ?hw43 rfl ?hx43 (fun wq hSq => ?hy43) ?hn43; (case hw43 => rfl); (case hx43 => (simp only [Act.eval, Array.getD_eq_getD_getElem?, List.getElem?_toArray, List.getElem?_cons_succ, List.getElem?_cons_zero, Option.getD_some]; (try rfl))); (case hy43 => (have khq := hSq.at kh (fun h => h); have kpq := hSq.at kp (fun h => h); go_simp; (try with_reducible rfl))); (try simp only [Act.put, List.setIfInBounds_toArray, List.set_cons_zero, List.set_cons_succ]))
    (refine TD.val0 (v := ?v44) (by simp only [List.getElem?_toArray, List.getElem?_cons_succ, List.getElem?_cons_zero]; rfl) rfl ?hw44 (fun w1 => ?hy44) ?hn44; (case hw44 => rfl); (case hy44 => (go_simp; (try with_reducible rfl))); (try simp only [Act.put, List.setIfInBounds_toArray, List.set_cons_zero, List.set_cons_succ]))
    (refine TD.lookup (v := ?v45) (p := ?p45) (q := ?q45) (Mod.refl _ _) (by simp only [List.getElem?_toArray, List.getElem?_cons_succ, List.getElem?_cons_zero]; rfl) rfl ?hw45 rfl ?hx45 ?hz45 (fun wq hSq => ?hy45) ?hn45; (case hw45 => rfl); (case hx45 => (simp only [Act.eval, Array.getD_eq_getD_getElem?, List.getElem?_toArray, List.getElem?_cons_succ, List.getElem?_cons_zero, Option.getD_some]; (try rfl))); (case hz45 => (simp only [Act.eval, Array.getD_eq_getD_getElem?, List.getElem?_toArray, List.getElem?_cons_succ, List.getElem?_cons_zero, Option.getD_some]; (try rfl))); (case hy45 => (rw [hlk2 wq hSq]; (try with_reducible rfl))); (try simp only [Act.put, List.setIfInBounds_toArray, List.set_cons_zero, List.set_cons_succ]))
    (refine TD.allocB (by simp only [List.getElem?_toArray, List.getElem?_cons_succ, List.getElem?_cons_zero]; rfl) rfl ?hw46 rfl rfl alNode (fun p5 hp5 => ?hn46); (case hw46 => rfl); (try simp only [Act.put, List.setIfInBounds_toArray, List.set_cons_zero, List.set_cons_succ]))
    (refine TD.storeB (d := ?d47) (T := ?T47) (y := ?y47) (p := ?p47) (b := ?b47) (v := ?v47) (by simp only [List.getElem?_toArray, List.getElem?_cons_succ, List.getElem?_cons_zero]; rfl) rfl ?hw47 ?hd47 ?hop47 ?hev47 ?hx47 ?hb47 ?htag47 (fun w1 hb1 => ?hy47) ?hn47; (case hw47 => rfl); (case hd47 => rfl); (case hop47 => rfl); (case hev47 => (simp only [Act.eval, Array.getD_eq_getD_getElem?, List.getElem?_toArray, List.getElem?_cons_succ, List.getElem?_cons_zero, Option.getD_some]; (try rfl))); (case hx47 => (simp only [Act.eval, Array.getD_eq_getD_getElem?, List.getElem?_toArray, List.getElem?_cons_succ, List.getElem?_cons_zero, Option.getD_some]; (try rfl))); (case hb47 => first | exact Bx.set_same _ _ _ | (simp only [Bx.set_same]; rfl)); (case hy47 => (go_simp; (try first | with_reducible rfl | (rw [setCell_blk hb1]; rfl)))); (try simp only [Act.put, List.setIfInBounds_toArray, List.set_cons_zero, List.set_cons_succ]))
    refine TD.nil (fun w3 hr => ?_)
    have kh := hr.mod.at kh (fun h => h)
    have kp := hr.mod.at kp (fun h => h)
    have kp5 := hr.box p5 _ (by first | exact Bx.set_same _ _ _ | (simp only [Bx.set_same]; rfl)); dsimp only [Value.cells] at kp5; obtain ⟨gp5, kp5⟩ := kp5
    have m3 := hr.mod
    clear hr hlk2
    go_wp2_with fail
    go_ret
    exact .inl ⟨rfl, HB.out, m3⟩
end Go.Proofs.Ytffcnnogkpdinaa
