/- Graphs: Put. -/
import Derived.Test.YtffcnnogkpdinaaGy
namespace Go.Proofs.Ytffcnnogkpdinaa
open Go.RowKit
open Go.ChangeMaps (setBlock)
set_option linter.unusedSimpArgs false
set_option linter.unusedVariables false
attribute [local go_sem ↓] wlKey wlRole ldKey ldRole stKey stRole
attribute [local go_sem] zKey_size zRole_size kc_ext rc_size rc_key rc_all rc_s rc_w rc_s' rc_w' rc_one one_int one_bool one_ptr one_slice one_map kc_one kc_one0 cell_blk frozen_blk Value.cells eqMap neMap
def howR (m : List (Key × Bool)) (r : Role) : List (Key × Bool) := put r.k ((lkp r.k m).getD false || r.w) m
def howL (l : List Role) : List (Key × Bool) := l.foldl howR []
theorem howL_snoc (l : List Role) (r : Role) : howL (l ++ [r]) = howR (howL l) r := by simp [howL, List.foldl_append]
theorem put_twice {κ ν : Type} [DecidableEq κ] (k : κ) (u v : ν) (m : List (κ × ν)) : put k v (put k u m) = put k v m := by
  induction m with
  | nil => simp [put]
  | cons p r ih =>
    by_cases h : p.1 = k
    · simp [put, h]
    · simp [put, h, ih]
theorem bv_zero (w : World) : (zeroValue 3).run Try.prog w = .ok (bv false) w := by kernel_rfl
theorem get3 (w : World) (a b c : Obj) (h : w.heap.size + 1 + 1 < (((w.alloc a).alloc b).alloc c).heap.size) : (((w.alloc a).alloc b).alloc c).heap[w.heap.size + 1 + 1]'h = c := by
  have h2 := (fresh3 w a b c).2.2
  rw [Array.getElem?_eq_getElem h] at h2
  exact Option.some.inj h2
attribute [local go_sem] get3
theorem alInt (w : World) : (Instr.alloc 3 true (.tuple #[])).run Try.prog w = .ok (.pointer (some ⟨w.heap.size, 0, none⟩)) (w.alloc (.cells #[.int .i64 0] 3)) := run_alloc_row (z := .int .i64 0) (fun w => by kernel_rfl) w
theorem put_len {κ ν : Type} [DecidableEq κ] (k : κ) (v : ν) : ∀ m : List (κ × ν), (put k v m).length ≤ m.length + 1
  | [] => by simp [put]
  | p :: r => by
    have := put_len k v r
    unfold put
    split
    · simp
    · simp; omega
theorem howL_len (l : List Role) : (howL l).length ≤ l.length := by
  induction l using list_snoc_ind with
  | h0 => simp [howL]
  | h1 l r ih =>
    rw [howL_snoc, List.length_append]
    unfold howR
    have := put_len r.k ((lkp r.k (howL l)).getD false || r.w) (howL l)
    simp
    omega
/-- The start: the new node beside all others. -/
theorem GMem.put0 {tag tag' : Tag} {w w' : World} {g nb sb q a : Nat} {A : List Nat} {N : List (Int64 × Nat)} {S : List (Key × Nat)} {nd nd' : Nat → Nr} {sp : Nat → Sr} (h : GMem tag w g nb sb q A N S nd sp) (hm : Mod (fun i => i = g) w w') (kg : w'.heap[g]? = some (.cells #[.map (some nb), .map (some sb), .int .i64 ((q + 1 : Nat) : Int)] 55 (0, 0)))
    (ht : ∀ i, i < w.heap.size → tag' i = tag i) (hx : NdAt tag' w' a (nd' a)) (hnd : ∀ c ∈ A, nd' c = nd c) : GMem tag' w' g nb sb (q + 1) (A ++ [a]) N S nd' sp := by
  obtain ⟨es, c, hk, M1⟩ := h.kn
  obtain ⟨es2, c2, hk2, M2⟩ := h.ks
  have hg : ∀ {i p}, tag i = some p → p ≠ (g, 5) → ¬ i = g := fun e hne hi => by
    rw [hi, h.tg] at e
    cases e
    exact hne rfl
  refine ⟨kg, ⟨es, c, hm.at hk (hg h.tnb (by simp)), M1⟩, ⟨es2, c2, hm.at hk2 (hg h.tsb (by simp)), M2⟩, fun b hb => ?_, fun p hp => (h.spots p hp).mod hm (fun i r e h3 h4 => hg e (by simp; omega)) ht, (ht _ (lt_size h.c)).trans h.tg, (ht _ (lt_size hk)).trans h.tnb, (ht _ (lt_size hk2)).trans h.tsb⟩
  rcases List.mem_append.1 hb with hb | hb
  · rw [hnd b hb]
    exact (h.nodes b hb).mod hm (fun i r e h3 => hg e (by simp; omega)) ht
  · obtain rfl := List.mem_singleton.1 hb
    exact hx
/-- The map of the ids is told anew. -/
theorem GMem.ids {tag : Tag} {w w' : World} {g nb sb q : Nat} {A : List Nat} {N N' : List (Int64 × Nat)} {S : List (Key × Nat)} {nd : Nat → Nr} {sp : Nat → Sr} (h : GMem tag w g nb sb q A N S nd sp) (hm : Mod (fun i => i = nb) w w') (hk : ∃ es c, w'.heap[nb]? = some (.map es c) ∧ MapIs idv ptrV es c N') : GMem tag w' g nb sb q A N' S nd sp := by
  obtain ⟨es2, c2, hk2, M2⟩ := h.ks
  have hg : ∀ {i p}, tag i = some p → p ≠ (g, 6) → ¬ i = nb := fun e hne hi => by
    rw [hi, h.tnb] at e
    cases e
    exact hne rfl
  exact ⟨hm.at h.c (hg h.tg (by simp)), hk, ⟨es2, c2, hm.at hk2 (hg h.tsb (by simp)), M2⟩, fun b hb => (h.nodes b hb).mod hm (fun i r e h3 => hg e (by simp; omega)) (fun _ _ => rfl), fun p hp => (h.spots p hp).mod hm (fun i r e h3 h4 => hg e (by simp; omega)) (fun _ _ => rfl), h.tg, h.tnb, h.tsb⟩
/-- A post that nobody leaves by a panic. -/
def noPanic (Q : Exit → Act → World → Prop) : Exit → Act → World → Prop := fun e a w => (∀ c, e ≠ .panic c) ∧ e ≠ .outgrown ∧ Q e a w
set_option maxRecDepth 100000 in
set_option maxHeartbeats 6400000 in
theorem put_c {g q : Nat} {C : List Cn} {T : Nat → Prop} {w : World} (hA : GAt g q C T w) (hT : ∀ i, T i → i < w.heap.size) (hq : q < 900) (id : Int64) (a : Option Addr) (l : List Role) (c : Nat) (hl : RolesAt w a l) (hll : l.length ≤ 800) (hd : l ≠ [] → ∀ b o, a = some ⟨b, o, none⟩ → ¬ T b) (hid : ∀ x ∈ C, x.id ≠ id) :
    Calls Try.prog 10 #[ptrV g, .int .i64 id.toInt, .slice a l.length c] w fun e w' => e = .returned (.int .i64 0) ∧ ∃ T', GAt g (q + 1) (C ++ [⟨id, chainC C id (howL l), fun k => lkp k (howL l)⟩]) T' w' ∧ Mod T w w' ∧ (∀ i, T' i → T i ∨ w.heap.size ≤ i) ∧ ∀ i, T' i → i < w'.heap.size := by
  obtain ⟨tag, nb, sb, L, N, S, nd, sp, H, I, rfl, hO⟩ := hA
  obtain ⟨es, c0, kb, M⟩ := H.kn
  have kh := H.c
  have hnone : lkp id N = none := by
    rcases I.look M.nodup id with ⟨h1, _⟩ | ⟨x, hx, h1, _⟩
    · exact h1
    · exact absurd h1 (hid _ (List.mem_map.2 ⟨x, hx, rfl⟩))
  have hlk := M.lookup idT Try.underlying52 (z := .pointer none) (fun w => by kernel_rfl) w kb id false
  simp only [hnone, Option.map_none, Option.getD_none, Bool.false_eq_true, if_false] at hlk
  replace hlk : (Instr.lookup 52 (.map (some nb)) (.int .i64 id.toInt) false).run Try.prog w = .ok (.pointer none) w := hlk
  have hmm := @run_makeMap Try.prog
  have hpu : IntKind.i64.wrap ((q : Int) + 1) = ((q + 1 : Nat) : Int) := by
    rw [IntKind.wrap_i64]
    omega
  have HH := Lib.hid H
  have HI := Lib.hid I
  have HO := Lib.hid hO
  have HT := Lib.hid hT
  have HL := Lib.hid hl
  have HD := Lib.hid hd
  have HN := Lib.hid hnone
  have MN := Lib.hid M
  clear H I hO hT hl hd hid hnone M
  refine callsIn_wide.1 (callsIn_of_wp_marks (n := 0) Try.func10 rfl trivial ?_ rfl)
  simp only [Try.ntmps10, List.size_toArray, List.length_cons, List.length_nil, Nat.reduceAdd, Nat.reduceSub, Array.replicate_succ, Array.replicate_zero, List.push_toArray, List.append_toArray, List.nil_append, List.cons_append]
  refine wpIn_wide.2 ?_
  refine wp_mono (Q := noPanic _) ?_ (fun e a w h => h.2.2)
  generalize hQ0 : bodyPostM Fence.wide 0 Try.prog _ _ = Q0
  have HQ0 := Lib.hid hQ0
  clear hQ0
  have hP : ∀ c a w, ¬ noPanic Q0 (.panic c) a w := fun c a w h => h.1 c rfl
  have hLo : ¬ LetsOut (noPanic Q0) := fun ⟨a, w, h⟩ => h.2.1 rfl
  generalize hQ1 : noPanic Q0 = Q1 at *
  have HQ1 := Lib.hid hQ1
  clear hQ1
  go_wp2_with fail
  go_at_call 23
  refine (there_c kh).mono ?_
  rintro e w2 ⟨rfl, rfl⟩
  go_upto_region 6 with fail
  obtain ⟨km, kn, k7⟩ := fresh3 w2 (.map #[] 0) (.cells #[.int .i64 id.toInt, .int .i64 id.toInt, .int .i64 (q : Int), .int .i64 0, .slice none 0 0, .map (some w2.heap.size)] 66) (.cells #[ptrV (w2.heap.size + 1)] 62)
  have m0 : Mod (fun _ => False) w2 (((w2.alloc (.map #[] 0)).alloc (.cells #[.int .i64 id.toInt, .int .i64 id.toInt, .int .i64 (q : Int), .int .i64 0, .slice none 0 0, .map (some w2.heap.size)] 66)).alloc (.cells #[ptrV (w2.heap.size + 1)] 62)) := (((Mod.refl _ _).alloc _).alloc _).alloc _
  generalize (((w2.alloc (.map #[] 0)).alloc (.cells #[.int .i64 id.toInt, .int .i64 id.toInt, .int .i64 (q : Int), .int .i64 0, .slice none 0 0, .map (some w2.heap.size)] 66)).alloc (.cells #[ptrV (w2.heap.size + 1)] 62)) = w3 at *
  generalize hbn : w2.heap.size = n at *
  have kh3 := m0.at0 kh
  have lg := lt_size kh
  rw [hbn] at lg
  clear hlk
  have Lkh3 := lt_size kh3
  have Lkm := lt_size km
  have Lkn := lt_size kn
  have Lk7 := lt_size k7
  refine wp_pass0 (C := fun _ _ _ => False) (κ := fun i => [0, 0, 0, 1, 0, 0, 0, 5].getD i 0) [0, 1, 2, 3, 4, 5, 6, 7] (by kernel_rfl) (by kernel_rfl) (fun _ _ d _ _ h => by cases d <;> first | exact h | exact absurd h (hP _ _ _)) ?_
  (refine TD.val0 (v := ?v1) (by simp only [List.getElem?_toArray, List.getElem?_cons_succ, List.getElem?_cons_zero]; rfl) rfl ?hw1 (fun w1 => ?hy1) ?hn1; (case hw1 => rfl); (case hy1 => (go_simp; (try with_reducible rfl))); (try simp only [Act.put, List.setIfInBounds_toArray, List.set_cons_zero, List.set_cons_succ]))
  (refine TD.val0 (v := ?v2) (by simp only [List.getElem?_toArray, List.getElem?_cons_succ, List.getElem?_cons_zero]; rfl) rfl ?hw2 (fun w1 => ?hy2) ?hn2; (case hw2 => rfl); (case hy2 => (go_simp; (try with_reducible rfl))); (try simp only [Act.put, List.setIfInBounds_toArray, List.set_cons_zero, List.set_cons_succ]))
  (refine TD.val0 (v := ?v3) (by simp only [List.getElem?_toArray, List.getElem?_cons_succ, List.getElem?_cons_zero]; rfl) rfl ?hw3 (fun w1 => ?hy3) ?hn3; (case hw3 => rfl); (case hy3 => (go_simp; (try with_reducible rfl))); (try simp only [Act.put, List.setIfInBounds_toArray, List.set_cons_zero, List.set_cons_succ]))
  (refine TD.load (v := ?v4) (p := ?p4) (Mod.refl _ _) (by simp only [List.getElem?_toArray, List.getElem?_cons_succ, List.getElem?_cons_zero]; rfl) rfl ?hw4 rfl ?hx4 (fun wq hSq => ?hy4) ?hn4; (case hw4 => rfl); (case hx4 => (simp only [Act.eval, Array.getD_eq_getD_getElem?, List.getElem?_toArray, List.getElem?_cons_succ, List.getElem?_cons_zero, Option.getD_some]; (try rfl))); (case hy4 => (have kh3q := hSq.at kh3 (fun h => h); have kmq := hSq.at km (fun h => h); have knq := hSq.at kn (fun h => h); have k7q := hSq.at k7 (fun h => h); go_simp; (try with_reducible rfl))); (try simp only [Act.put, List.setIfInBounds_toArray, List.set_cons_zero, List.set_cons_succ]))
  (refine TD.val0 (v := ?v5) (by simp only [List.getElem?_toArray, List.getElem?_cons_succ, List.getElem?_cons_zero]; rfl) rfl ?hw5 (fun w1 => ?hy5) ?hn5; (case hw5 => rfl); (case hy5 => (go_simp; (try with_reducible rfl))); (try simp only [Act.put, List.setIfInBounds_toArray, List.set_cons_zero, List.set_cons_succ]))
  (refine TD.val0 (v := ?v6) (by simp only [List.getElem?_toArray, List.getElem?_cons_succ, List.getElem?_cons_zero]; rfl) rfl ?hw6 (fun w1 => ?hy6) ?hn6; (case hw6 => rfl); (case hy6 => (go_simp; (try with_reducible rfl))); (try simp only [Act.put, List.setIfInBounds_toArray, List.set_cons_zero, List.set_cons_succ]))
  (refine TD.val0 (v := ?v7) (by simp only [List.getElem?_toArray, List.getElem?_cons_succ, List.getElem?_cons_zero]; rfl) rfl ?hw7 (fun w1 => ?hy7) ?hn7; (case hw7 => rfl); (case hy7 => (go_simp; (try with_reducible rfl))); (try simp only [Act.put, List.setIfInBounds_toArray, List.set_cons_zero, List.set_cons_succ]))
  refine TD.eff (by simp only [List.getElem?_toArray, List.getElem?_cons_succ, List.getElem?_cons_zero]; rfl) rfl (fun wE hr => ?_)
  have kh3 := hr.mod.at0 kh3
  have km := hr.mod.at0 km
  have kn := hr.mod.at0 kn
  have k7 := hr.mod.at0 k7
  have mE := hr.mod
  (refine eff_store (X := ?X8) (Y := ?Y8) (w' := ?w8) (by simp only [List.getElem?_toArray, List.getElem?_cons_succ, List.getElem?_cons_zero]; rfl) ?hw8 rfl ?hx8 ?hz8 ?hy8 ?hn8; (case hw8 => rfl); (case hx8 => (simp only [Act.eval, Array.getD_eq_getD_getElem?, List.getElem?_toArray, List.getElem?_cons_succ, List.getElem?_cons_zero, Option.getD_some]; (try rfl))); (case hz8 => (simp only [Act.eval, Array.getD_eq_getD_getElem?, List.getElem?_toArray, List.getElem?_cons_succ, List.getElem?_cons_zero, Option.getD_some]; (try rfl))); (case hy8 => (go_simp; (try with_reducible rfl))))
  (first | refine TE.nil_set kh3 (fun w4 kh3 mS => ?_) | refine TE.nil_setCell kh3 (fun w4 kh3 mS => ?_))
  (try simp only [Array.setIfInBounds, List.setIfInBounds_toArray, List.set_cons_zero, List.set_cons_succ] at kh3)
  have km := mS.at_ne km (by omega)
  have kn := mS.at_ne kn (by omega)
  have k7 := mS.at_ne k7 (by omega)
  have m4 : Mod (fun i => i = g) w2 w4 := ((m0.then0 mE).mono (fun _ _ h => h.elim)).then mS (fun _ _ h => h)
  clear mE mS hr
  have hcs : IntKind.i64.wrap ((q : Int) + 1) = ((q + 1 : Nat) : Int) := hpu
  have kgr : w4.heap[g]? = some (.cells #[.map (some nb), .map (some sb), .int .i64 ((q + 1 : Nat) : Int)] 55 (0, 0)) := kh3
  have HG := Lib.hid kgr
  clear kgr kh3 hcs hpu hmm
  have Lkm : n < w4.heap.size := lt_size km
  have L7 := lt_size k7
  go_wp2_with fail
  go_loopw [44] (fun s44 wr => ∃ i : Nat, i ≤ l.length ∧ s44 = .int .i64 i ∧ (∃ es c, wr.heap[n]? = some (.map es c) ∧ Hid (MapIs kv bv es c (howL (l.take i)))) ∧ Mod (fun x => x = n) w4 wr) (fun s44 _ => l.length - (intOf s44).toNat)
  case atStart => exact ⟨0, by omega, rfl, ⟨_, _, km, Lib.hid (MapIs.empty kv bv)⟩, Mod.refl _ _⟩
  case round =>
    obtain ⟨i, hi, rfl, ⟨es1, cl1, km, HM⟩, hm⟩ := hrel
    have k7 := hm.at k7 (by omega)
    have kn := hm.at kn (by omega)
    by_cases hlt : i < l.length
    · obtain ⟨r, hrr⟩ : ∃ r, l[i]? = some r := ⟨_, List.getElem?_eq_getElem hlt⟩
      obtain ⟨b, o, CC, U, fr, rfl, kl, hx, hle⟩ := HL.out.block hrr
      have kl4 := hm.at (m4.at kl (fun e => HD.out (by rintro rfl; cases hlt) b o rfl (e ▸ HO.out g (by rw [HH.out.tg]; simp)))) (by have := lt_size kl; omega)
      clear kl
      have kl := kl4
      clear kl4
      obtain ⟨k, s, b1⟩ := r
      have HT1 : Hid (l.take (i + 1) = l.take i ++ [⟨k, s, b1⟩]) := Lib.hid (by rw [List.take_add_one, hrr]; rfl)
      unfold rcr at hx
      dsimp only at hx
      clear hrr
      go_upto_region 9 with fail
      have Lkn := lt_size kn
      have Lk7 := lt_size k7
      have Lkm := lt_size km
      have Lkl := lt_size kl
      refine wp_pass0 (C := fun _ _ _ => False) (κ := fun i => [0, 1, 3, 4].getD i 0) [0, 1, 2, 3] (by kernel_rfl) (by kernel_rfl) (fun _ _ d _ _ h => by cases d <;> first | exact h | exact absurd h (hP _ _ _)) ?_
      (refine TD.val0 (v := ?v9) (by simp only [List.getElem?_toArray, List.getElem?_cons_succ, List.getElem?_cons_zero]; rfl) rfl ?hw9 (fun w1 => ?hy9) ?hn9; (case hw9 => rfl); (case hy9 => (go_simp; (try with_reducible rfl))); (try simp only [Act.put, List.setIfInBounds_toArray, List.set_cons_zero, List.set_cons_succ]))
      (refine TD.load (v := ?v10) (p := ?p10) (Mod.refl _ _) (by simp only [List.getElem?_toArray, List.getElem?_cons_succ, List.getElem?_cons_zero]; rfl) rfl ?hw10 rfl ?hx10 (fun wq hSq => ?hy10) ?hn10; (case hw10 => rfl); (case hx10 => (simp only [Act.eval, Array.getD_eq_getD_getElem?, List.getElem?_toArray, List.getElem?_cons_succ, List.getElem?_cons_zero, Option.getD_some]; (try rfl))); (case hy10 => (have knq := hSq.at kn (fun h => h); have k7q := hSq.at k7 (fun h => h); have kmq := hSq.at km (fun h => h); have klq := hSq.at kl (fun h => h); go_simp; (try with_reducible rfl))); (try simp only [Act.put, List.setIfInBounds_toArray, List.set_cons_zero, List.set_cons_succ]))
      (refine TD.allocB (by simp only [List.getElem?_toArray, List.getElem?_cons_succ, List.getElem?_cons_zero]; rfl) rfl ?hw11 rfl rfl alRole (fun p9 hp9 => ?hn11); (case hw11 => rfl); (try simp only [Act.put, List.setIfInBounds_toArray, List.set_cons_zero, List.set_cons_succ]))
      (refine TD.storeB (d := ?d12) (T := ?T12) (y := ?y12) (p := ?p12) (b := ?b12) (v := ?v12) (by simp only [List.getElem?_toArray, List.getElem?_cons_succ, List.getElem?_cons_zero]; rfl) rfl ?hw12 ?hd12 ?hop12 ?hev12 ?hx12 ?hb12 ?htag12 (fun w1 hb1 => ?hy12) ?hn12; (case hw12 => rfl); (case hd12 => rfl); (case hop12 => rfl); (case hev12 => (simp only [Act.eval, Array.getD_eq_getD_getElem?, List.getElem?_toArray, List.getElem?_cons_succ, List.getElem?_cons_zero, Option.getD_some]; (try rfl))); (case hx12 => (simp only [Act.eval, Array.getD_eq_getD_getElem?, List.getElem?_toArray, List.getElem?_cons_succ, List.getElem?_cons_zero, Option.getD_some]; (try rfl))); (case hb12 => first | exact Bx.set_same _ _ _ | (simp only [Bx.set_same]; rfl)); (case hy12 => (go_simp; (try first | with_reducible rfl | (rw [setCell_blk hb1]; rfl)))); (try simp only [Act.put, List.setIfInBounds_toArray, List.set_cons_zero, List.set_cons_succ]))
      refine TD.nil (fun w5 hr => ?_)
      have kn := hr.mod.at kn (fun h => h)
      have k7 := hr.mod.at k7 (fun h => h)
      have km := hr.mod.at km (fun h => h)
      have kl := hr.mod.at kl (fun h => h)
      have kp9 := hr.box p9 _ (by first | exact Bx.set_same _ _ _ | (simp only [Bx.set_same]; rfl)); dsimp only [Value.cells] at kp9; obtain ⟨gp9, kp9⟩ := kp9
      have m5 := hm.then0 hr.mod
      clear hr
      obtain ⟨qn, hqn⟩ : ∃ qn, (lkp k (howL (l.take i))).getD false = qn := ⟨_, rfl⟩
      have hwr : IntKind.i64.wrap (if qn then (1 : Int) else 0) = (if qn then 1 else 0) := by cases qn <;> rfl
      have hlk : ∀ wq es c, wq.heap[n]? = some (.map es c) → MapIs kv bv es c (howL (l.take i)) ∨ MapIs kv bv es c (put k qn (howL (l.take i))) → (Instr.lookup 63 (.map (some n)) (.agg (kc k)) false).run Try.prog wq = .ok (.int .i64 (if qn then 1 else 0)) wq := fun wq es c hq hM => by
        rcases hM with hM | hM
        · have := hM.lookupD keyT Try.underlying63 (z := false) bv_zero wq hq k
          rw [hqn] at this
          exact this
        · have := hM.lookupD keyT Try.underlying63 (z := false) bv_zero wq hq k
          rw [lkp_put_same, Option.getD_some] at this
          exact this
      have HLK := Lib.hid hlk
      have hen := fun (wq : World) (hq : wq.heap[n]? = some (.map es1 cl1)) => HM.out.entry keyT Try.underlying63 (z := false) bv_zero wq hq k
      simp only [hqn] at hen
      have HEN := Lib.hid hen
      have HQ := Lib.hid hqn
      generalize hqi : (if qn then (1 : Int) else 0) = qi at *
      have HQI := Lib.hid hqi
      clear hlk hen hqn hqi
      go_upto_region 10 with fail
      go_cut [] from 48 to 57 (fun wx => (∃ es c, wx.heap[n]? = some (.map es c) ∧ Hid (MapIs kv bv es c (put k qn (howL (l.take i))))) ∧ wx.heap[n + 1 + 1]? = some (.cells #[ptrV (n + 1)] 62 (0, 0)) ∧ wx.heap[n + 1]? = some (.cells #[.int .i64 id.toInt, .int .i64 id.toInt, .int .i64 (q : Int), .int .i64 0, .slice none 0 0, .map (some n)] 66 (0, 0)) ∧ wx.heap[p9]? = some (.cells (rc k s b1) 31 (0, 0)) ∧ Mod (fun x => x = n) w4 wx)
      case first =>
        have Lkn := lt_size kn
        have Lk7 := lt_size k7
        have Lkm := lt_size km
        have Lkp9 := lt_size kp9
        refine wp_xpass (T0 := fun _ => False) (K := fun _ _ => True) (κ := fun i => [0, 0, 0, 0, 0, 0, 6, 0, 6, 0, 6].getD i 0) (υ := fun i => [[], [], [], [], [], [], [], [], [], [], []].getD i []) [0, 1, 2, 3, 4, 5] [6, 7, 8, 9, 10] (by kernel_rfl) (by kernel_rfl) (Good.true).cl (trivial) (fun _ h => h.elim) ?_
        have gK := Good.true
        (refine TG.load (v := ?v13) (p := ?p13) (by simp only [List.getElem?_toArray, List.getElem?_cons_succ, List.getElem?_cons_zero]; rfl) rfl ?hw13 rfl ?hx13 (fun wq hSq => ?hy13) ?hn13; (case hw13 => rfl); (case hx13 => (simp only [Act.eval, Array.getD_eq_getD_getElem?, List.getElem?_toArray, List.getElem?_cons_succ, List.getElem?_cons_zero, Option.getD_some]; (try rfl))); (case hy13 => (have knq := hSq.at kn (by intro hT; first | exact hT | exact absurd hT (by assumption) | omega | (simp only at hT; omega)); have k7q := hSq.at k7 (by intro hT; first | exact hT | exact absurd hT (by assumption) | omega | (simp only at hT; omega)); have kmq := hSq.at km (by intro hT; first | exact hT | exact absurd hT (by assumption) | omega | (simp only at hT; omega)); have kp9q := hSq.at kp9 (by intro hT; first | exact hT | exact absurd hT (by assumption) | omega | (simp only at hT; omega)); go_simp; (try with_reducible rfl))); (try simp only [Act.put, List.setIfInBounds_toArray, List.set_cons_zero, List.set_cons_succ]))
        (refine TG.v0 (v := ?v14) (by simp only [List.getElem?_toArray, List.getElem?_cons_succ, List.getElem?_cons_zero]; rfl) rfl ?hw14 (fun w1 => ?hy14) ?hn14; (case hw14 => rfl); (case hy14 => (go_simp; (try with_reducible rfl))); (try simp only [Act.put, List.setIfInBounds_toArray, List.set_cons_zero, List.set_cons_succ]))
        (refine TG.v0 (v := ?v15) (by simp only [List.getElem?_toArray, List.getElem?_cons_succ, List.getElem?_cons_zero]; rfl) rfl ?hw15 (fun w1 => ?hy15) ?hn15; (case hw15 => rfl); (case hy15 => (go_simp; (try with_reducible rfl))); (try simp only [Act.put, List.setIfInBounds_toArray, List.set_cons_zero, List.set_cons_succ]))
        (refine TG.load (v := ?v16) (p := ?p16) (by simp only [List.getElem?_toArray, List.getElem?_cons_succ, List.getElem?_cons_zero]; rfl) rfl ?hw16 rfl ?hx16 (fun wq hSq => ?hy16) ?hn16; (case hw16 => rfl); (case hx16 => (simp only [Act.eval, Array.getD_eq_getD_getElem?, List.getElem?_toArray, List.getElem?_cons_succ, List.getElem?_cons_zero, Option.getD_some]; (try rfl))); (case hy16 => (have knq := hSq.at kn (by intro hT; first | exact hT | exact absurd hT (by assumption) | omega | (simp only at hT; omega)); have k7q := hSq.at k7 (by intro hT; first | exact hT | exact absurd hT (by assumption) | omega | (simp only at hT; omega)); have kmq := hSq.at km (by intro hT; first | exact hT | exact absurd hT (by assumption) | omega | (simp only at hT; omega)); have kp9q := hSq.at kp9 (by intro hT; first | exact hT | exact absurd hT (by assumption) | omega | (simp only at hT; omega)); go_simp; (try with_reducible rfl))); (try simp only [Act.put, List.setIfInBounds_toArray, List.set_cons_zero, List.set_cons_succ]))
        (refine TG.v0 (v := ?v17) (by simp only [List.getElem?_toArray, List.getElem?_cons_succ, List.getElem?_cons_zero]; rfl) rfl ?hw17 (fun w1 => ?hy17) ?hn17; (case hw17 => rfl); (case hy17 => (go_simp; (try with_reducible rfl))); (try simp only [Act.put, List.setIfInBounds_toArray, List.set_cons_zero, List.set_cons_succ]))
        (refine TG.load (v := ?v18) (p := ?p18) (by simp only [List.getElem?_toArray, List.getElem?_cons_succ, List.getElem?_cons_zero]; rfl) rfl ?hw18 rfl ?hx18 (fun wq hSq => ?hy18) ?hn18; (case hw18 => rfl); (case hx18 => (simp only [Act.eval, Array.getD_eq_getD_getElem?, List.getElem?_toArray, List.getElem?_cons_succ, List.getElem?_cons_zero, Option.getD_some]; (try rfl))); (case hy18 => (have knq := hSq.at kn (by intro hT; first | exact hT | exact absurd hT (by assumption) | omega | (simp only at hT; omega)); have k7q := hSq.at k7 (by intro hT; first | exact hT | exact absurd hT (by assumption) | omega | (simp only at hT; omega)); have kmq := hSq.at km (by intro hT; first | exact hT | exact absurd hT (by assumption) | omega | (simp only at hT; omega)); have kp9q := hSq.at kp9 (by intro hT; first | exact hT | exact absurd hT (by assumption) | omega | (simp only at hT; omega)); go_simp; (try with_reducible rfl))); (try simp only [Act.put, List.setIfInBounds_toArray, List.set_cons_zero, List.set_cons_succ]))
        refine TG.nil (fun w6 ⟨TR, hr⟩ => ?_)
        have kn := hr.mod.at kn (by intro hT; first | exact hT | exact absurd hT (by assumption) | omega | (simp only at hT; omega))
        have k7 := hr.mod.at k7 (by intro hT; first | exact hT | exact absurd hT (by assumption) | omega | (simp only at hT; omega))
        have km := hr.mod.at km (by intro hT; first | exact hT | exact absurd hT (by assumption) | omega | (simp only at hT; omega))
        have kp9 := hr.mod.at kp9 (by intro hT; first | exact hT | exact absurd hT (by assumption) | omega | (simp only at hT; omega))
        clear gK
        have m6 := m5.then0 hr.mod
        obtain ⟨st, es2, cl2, hrE, M2, hF⟩ := HEN.out w6 km
        have hl6 := HLK.out w6 _ _ km (.inl HM.out)
        have km7 := heap_setBlock w6 (.map es2 cl2) (lt_size km)
        have mS7 := mod_set w6 n (.map es2 cl2)
        generalize setBlock w6 n (.map es2 cl2) = w7 at *
        have hl7 := HLK.out w7 _ _ km7 (.inr M2)
        obtain ⟨es3, cl3, hrF, M3⟩ := hF w7 qn km7
        have km8 := heap_setBlock w7 (.map es3 cl3) (lt_size km7)
        have mS8 := mod_set w7 n (.map es3 cl3)
        generalize setBlock w7 n (.map es3 cl3) = w8 at *
        have hne9 : p9 ≠ n := by have := lt_size km; omega
        have hend : (∃ es c, w8.heap[n]? = some (.map es c) ∧ Hid (MapIs kv bv es c (put k qn (howL (l.take i))))) ∧ w8.heap[n + 1 + 1]? = some (.cells #[ptrV (n + 1)] 62 (0, 0)) ∧ w8.heap[n + 1]? = some (.cells #[.int .i64 id.toInt, .int .i64 id.toInt, .int .i64 (q : Int), .int .i64 0, .slice none 0 0, .map (some n)] 66 (0, 0)) ∧ w8.heap[p9]? = some (.cells (rc k s b1) 31 (0, 0)) ∧ Mod (fun x => x = n) w4 w8 :=
          ⟨⟨_, _, km8, Lib.hid M3⟩, mS8.at_ne (mS7.at_ne k7 (by omega)) (by omega), mS8.at_ne (mS7.at_ne kn (by omega)) (by omega), mS8.at_ne (mS7.at_ne kp9 hne9) hne9, (m6.then mS7 (fun _ _ h => h)).then mS8 (fun _ _ h => h)⟩
        have HEND := Lib.hid hend
        clear hend
        simp only [bv, HQI.out] at hrE hrF
        (intro iA hiA hbA; simp only [List.mem_cons, List.not_mem_nil, or_false] at hiA; rcases hiA with rfl | rfl | rfl | rfl | rfl)
        · clear hbA
          (refine eff_look (by simp only [List.getElem?_toArray, List.getElem?_cons_succ, List.getElem?_cons_zero]; rfl) ?hw19 rfl ?hx19 ?hz19 (by first | exact hl6 | exact hl7) ?hn19; (case hw19 => rfl); (case hx19 => (simp only [Act.eval, Array.getD_eq_getD_getElem?, List.getElem?_toArray, List.getElem?_cons_succ, List.getElem?_cons_zero, Option.getD_some]; (try rfl))); (case hz19 => (simp only [Act.eval, Array.getD_eq_getD_getElem?, List.getElem?_toArray, List.getElem?_cons_succ, List.getElem?_cons_zero, Option.getD_some]; (try rfl))); (try simp only [Act.put, List.setIfInBounds_toArray, List.set_cons_zero, List.set_cons_succ]))
          rw [show ([6, 7, 8, 9, 10] : List Nat).erase 6 = [7, 8, 9, 10] from rfl]
          (intro iA hiA hbA; simp only [List.mem_cons, List.not_mem_nil, or_false] at hiA; rcases hiA with rfl | rfl | rfl | rfl)
          · clear hbA
            (refine eff_value (v := ?v20) (w' := ?w20) (by simp only [List.getElem?_toArray, List.getElem?_cons_succ, List.getElem?_cons_zero]; rfl) ?hw20 ?hy20 ?hn20; (case hw20 => rfl); (case hy20 => (go_simp; (try (first | with_reducible rfl | (constructor <;> with_reducible rfl))))); (try simp only [Act.put, List.setIfInBounds_toArray, List.set_cons_zero, List.set_cons_succ]))
            rw [show ([7, 8, 9, 10] : List Nat).erase 7 = [8, 9, 10] from rfl]
            (intro iA hiA hbA; simp only [List.mem_cons, List.not_mem_nil, or_false] at hiA; rcases hiA with rfl | rfl | rfl)
            · clear hbA
              (refine eff_entry (by simp only [List.getElem?_toArray, List.getElem?_cons_succ, List.getElem?_cons_zero]; rfl) ?hw21 rfl ?hx21 ?hz21 hrE ?hn21; (case hw21 => rfl); (case hx21 => (simp only [Act.eval, Array.getD_eq_getD_getElem?, List.getElem?_toArray, List.getElem?_cons_succ, List.getElem?_cons_zero, Option.getD_some]; (try rfl))); (case hz21 => (simp only [Act.eval, Array.getD_eq_getD_getElem?, List.getElem?_toArray, List.getElem?_cons_succ, List.getElem?_cons_zero, Option.getD_some]; (try rfl))); (try simp only [Act.put, List.setIfInBounds_toArray, List.set_cons_zero, List.set_cons_succ]))
              rw [show ([8, 9, 10] : List Nat).erase 8 = [9, 10] from rfl]
              (intro iA hiA hbA; simp only [List.mem_cons, List.not_mem_nil, or_false] at hiA; rcases hiA with rfl | rfl)
              · clear hbA
                (refine eff_value (v := ?v22) (w' := ?w22) (by simp only [List.getElem?_toArray, List.getElem?_cons_succ, List.getElem?_cons_zero]; rfl) ?hw22 ?hy22 ?hn22; (case hw22 => rfl); (case hy22 => (go_simp; (try (first | with_reducible rfl | (constructor <;> with_reducible rfl))))); (try simp only [Act.put, List.setIfInBounds_toArray, List.set_cons_zero, List.set_cons_succ]))
                rw [show ([9, 10] : List Nat).erase 9 = [10] from rfl]
                (intro iA hiA hbA; simp only [List.mem_cons, List.not_mem_nil, or_false] at hiA; subst hiA)
                · clear hbA
                  (refine eff_estore (by simp only [List.getElem?_toArray, List.getElem?_cons_succ, List.getElem?_cons_zero]; rfl) ?hw23 rfl ?hx23 ?hz23 ?hv23 hrF ?hn23; (case hw23 => rfl); (case hx23 => (simp only [Act.eval, Array.getD_eq_getD_getElem?, List.getElem?_toArray, List.getElem?_cons_succ, List.getElem?_cons_zero, Option.getD_some]; (try rfl))); (case hz23 => (simp only [Act.eval, Array.getD_eq_getD_getElem?, List.getElem?_toArray, List.getElem?_cons_succ, List.getElem?_cons_zero, Option.getD_some]; (try rfl))); (case hv23 => (simp only [Act.eval, Array.getD_eq_getD_getElem?, List.getElem?_toArray, List.getElem?_cons_succ, List.getElem?_cons_zero, Option.getD_some]; (try rfl))); (try simp only [Act.put, List.setIfInBounds_toArray, List.set_cons_zero, List.set_cons_succ]))
                  rw [show ([10] : List Nat).erase 10 = [] from rfl]
                  refine allE_nil ?_
                  go_wp2_with fail; go_meet; exact HEND.out
              · exact no_head (by kernel_rfl) hbA
            · exact no_head (by kernel_rfl) hbA
            · exact no_head (by kernel_rfl) hbA
          · clear hbA
            (refine eff_entry (by simp only [List.getElem?_toArray, List.getElem?_cons_succ, List.getElem?_cons_zero]; rfl) ?hw24 rfl ?hx24 ?hz24 hrE ?hn24; (case hw24 => rfl); (case hx24 => (simp only [Act.eval, Array.getD_eq_getD_getElem?, List.getElem?_toArray, List.getElem?_cons_succ, List.getElem?_cons_zero, Option.getD_some]; (try rfl))); (case hz24 => (simp only [Act.eval, Array.getD_eq_getD_getElem?, List.getElem?_toArray, List.getElem?_cons_succ, List.getElem?_cons_zero, Option.getD_some]; (try rfl))); (try simp only [Act.put, List.setIfInBounds_toArray, List.set_cons_zero, List.set_cons_succ]))
            rw [show ([7, 8, 9, 10] : List Nat).erase 8 = [7, 9, 10] from rfl]
            (intro iA hiA hbA; simp only [List.mem_cons, List.not_mem_nil, or_false] at hiA; rcases hiA with rfl | rfl | rfl)
            · clear hbA
              (refine eff_value (v := ?v25) (w' := ?w25) (by simp only [List.getElem?_toArray, List.getElem?_cons_succ, List.getElem?_cons_zero]; rfl) ?hw25 ?hy25 ?hn25; (case hw25 => rfl); (case hy25 => (go_simp; (try (first | with_reducible rfl | (constructor <;> with_reducible rfl))))); (try simp only [Act.put, List.setIfInBounds_toArray, List.set_cons_zero, List.set_cons_succ]))
              rw [show ([7, 9, 10] : List Nat).erase 7 = [9, 10] from rfl]
              (intro iA hiA hbA; simp only [List.mem_cons, List.not_mem_nil, or_false] at hiA; rcases hiA with rfl | rfl)
              · clear hbA
                (refine eff_value (v := ?v26) (w' := ?w26) (by simp only [List.getElem?_toArray, List.getElem?_cons_succ, List.getElem?_cons_zero]; rfl) ?hw26 ?hy26 ?hn26; (case hw26 => rfl); (case hy26 => (go_simp; (try (first | with_reducible rfl | (constructor <;> with_reducible rfl))))); (try simp only [Act.put, List.setIfInBounds_toArray, List.set_cons_zero, List.set_cons_succ]))
                rw [show ([9, 10] : List Nat).erase 9 = [10] from rfl]
                (intro iA hiA hbA; simp only [List.mem_cons, List.not_mem_nil, or_false] at hiA; subst hiA)
                · clear hbA
                  (refine eff_estore (by simp only [List.getElem?_toArray, List.getElem?_cons_succ, List.getElem?_cons_zero]; rfl) ?hw27 rfl ?hx27 ?hz27 ?hv27 hrF ?hn27; (case hw27 => rfl); (case hx27 => (simp only [Act.eval, Array.getD_eq_getD_getElem?, List.getElem?_toArray, List.getElem?_cons_succ, List.getElem?_cons_zero, Option.getD_some]; (try rfl))); (case hz27 => (simp only [Act.eval, Array.getD_eq_getD_getElem?, List.getElem?_toArray, List.getElem?_cons_succ, List.getElem?_cons_zero, Option.getD_some]; (try rfl))); (case hv27 => (simp only [Act.eval, Array.getD_eq_getD_getElem?, List.getElem?_toArray, List.getElem?_cons_succ, List.getElem?_cons_zero, Option.getD_some]; (try rfl))); (try simp only [Act.put, List.setIfInBounds_toArray, List.set_cons_zero, List.set_cons_succ]))
                  rw [show ([10] : List Nat).erase 10 = [] from rfl]
                  refine allE_nil ?_
                  go_wp2_with fail; go_meet; exact HEND.out
              · exact no_head (by kernel_rfl) hbA
            · clear hbA
              (refine eff_value (v := ?v28) (w' := ?w28) (by simp only [List.getElem?_toArray, List.getElem?_cons_succ, List.getElem?_cons_zero]; rfl) ?hw28 ?hy28 ?hn28; (case hw28 => rfl); (case hy28 => (go_simp; (try (first | with_reducible rfl | (constructor <;> with_reducible rfl))))); (try simp only [Act.put, List.setIfInBounds_toArray, List.set_cons_zero, List.set_cons_succ]))
              rw [show ([7, 9, 10] : List Nat).erase 9 = [7, 10] from rfl]
              (intro iA hiA hbA; simp only [List.mem_cons, List.not_mem_nil, or_false] at hiA; rcases hiA with rfl | rfl)
              · clear hbA
                (refine eff_value (v := ?v29) (w' := ?w29) (by simp only [List.getElem?_toArray, List.getElem?_cons_succ, List.getElem?_cons_zero]; rfl) ?hw29 ?hy29 ?hn29; (case hw29 => rfl); (case hy29 => (go_simp; (try (first | with_reducible rfl | (constructor <;> with_reducible rfl))))); (try simp only [Act.put, List.setIfInBounds_toArray, List.set_cons_zero, List.set_cons_succ]))
                rw [show ([7, 10] : List Nat).erase 7 = [10] from rfl]
                (intro iA hiA hbA; simp only [List.mem_cons, List.not_mem_nil, or_false] at hiA; subst hiA)
                · clear hbA
                  (refine eff_estore (by simp only [List.getElem?_toArray, List.getElem?_cons_succ, List.getElem?_cons_zero]; rfl) ?hw30 rfl ?hx30 ?hz30 ?hv30 hrF ?hn30; (case hw30 => rfl); (case hx30 => (simp only [Act.eval, Array.getD_eq_getD_getElem?, List.getElem?_toArray, List.getElem?_cons_succ, List.getElem?_cons_zero, Option.getD_some]; (try rfl))); (case hz30 => (simp only [Act.eval, Array.getD_eq_getD_getElem?, List.getElem?_toArray, List.getElem?_cons_succ, List.getElem?_cons_zero, Option.getD_some]; (try rfl))); (case hv30 => (simp only [Act.eval, Array.getD_eq_getD_getElem?, List.getElem?_toArray, List.getElem?_cons_succ, List.getElem?_cons_zero, Option.getD_some]; (try rfl))); (try simp only [Act.put, List.setIfInBounds_toArray, List.set_cons_zero, List.set_cons_succ]))
                  rw [show ([10] : List Nat).erase 10 = [] from rfl]
                  refine allE_nil ?_
                  go_wp2_with fail; go_meet; exact HEND.out
              · exact no_head (by kernel_rfl) hbA
            · exact no_head (by kernel_rfl) hbA
          · exact no_head (by kernel_rfl) hbA
          · exact no_head (by kernel_rfl) hbA
        · exact no_head (by kernel_rfl) hbA
        · clear hbA
          (refine eff_entry (by simp only [List.getElem?_toArray, List.getElem?_cons_succ, List.getElem?_cons_zero]; rfl) ?hw31 rfl ?hx31 ?hz31 hrE ?hn31; (case hw31 => rfl); (case hx31 => (simp only [Act.eval, Array.getD_eq_getD_getElem?, List.getElem?_toArray, List.getElem?_cons_succ, List.getElem?_cons_zero, Option.getD_some]; (try rfl))); (case hz31 => (simp only [Act.eval, Array.getD_eq_getD_getElem?, List.getElem?_toArray, List.getElem?_cons_succ, List.getElem?_cons_zero, Option.getD_some]; (try rfl))); (try simp only [Act.put, List.setIfInBounds_toArray, List.set_cons_zero, List.set_cons_succ]))
          rw [show ([6, 7, 8, 9, 10] : List Nat).erase 8 = [6, 7, 9, 10] from rfl]
          (intro iA hiA hbA; simp only [List.mem_cons, List.not_mem_nil, or_false] at hiA; rcases hiA with rfl | rfl | rfl | rfl)
          · clear hbA
            (refine eff_look (by simp only [List.getElem?_toArray, List.getElem?_cons_succ, List.getElem?_cons_zero]; rfl) ?hw32 rfl ?hx32 ?hz32 (by first | exact hl6 | exact hl7) ?hn32; (case hw32 => rfl); (case hx32 => (simp only [Act.eval, Array.getD_eq_getD_getElem?, List.getElem?_toArray, List.getElem?_cons_succ, List.getElem?_cons_zero, Option.getD_some]; (try rfl))); (case hz32 => (simp only [Act.eval, Array.getD_eq_getD_getElem?, List.getElem?_toArray, List.getElem?_cons_succ, List.getElem?_cons_zero, Option.getD_some]; (try rfl))); (try simp only [Act.put, List.setIfInBounds_toArray, List.set_cons_zero, List.set_cons_succ]))
            rw [show ([6, 7, 9, 10] : List Nat).erase 6 = [7, 9, 10] from rfl]
            (intro iA hiA hbA; simp only [List.mem_cons, List.not_mem_nil, or_false] at hiA; rcases hiA with rfl | rfl | rfl)
            · clear hbA
              (refine eff_value (v := ?v33) (w' := ?w33) (by simp only [List.getElem?_toArray, List.getElem?_cons_succ, List.getElem?_cons_zero]; rfl) ?hw33 ?hy33 ?hn33; (case hw33 => rfl); (case hy33 => (go_simp; (try (first | with_reducible rfl | (constructor <;> with_reducible rfl))))); (try simp only [Act.put, List.setIfInBounds_toArray, List.set_cons_zero, List.set_cons_succ]))
              rw [show ([7, 9, 10] : List Nat).erase 7 = [9, 10] from rfl]
              (intro iA hiA hbA; simp only [List.mem_cons, List.not_mem_nil, or_false] at hiA; rcases hiA with rfl | rfl)
              · clear hbA
                (refine eff_value (v := ?v34) (w' := ?w34) (by simp only [List.getElem?_toArray, List.getElem?_cons_succ, List.getElem?_cons_zero]; rfl) ?hw34 ?hy34 ?hn34; (case hw34 => rfl); (case hy34 => (go_simp; (try (first | with_reducible rfl | (constructor <;> with_reducible rfl))))); (try simp only [Act.put, List.setIfInBounds_toArray, List.set_cons_zero, List.set_cons_succ]))
                rw [show ([9, 10] : List Nat).erase 9 = [10] from rfl]
                (intro iA hiA hbA; simp only [List.mem_cons, List.not_mem_nil, or_false] at hiA; subst hiA)
                · clear hbA
                  (refine eff_estore (by simp only [List.getElem?_toArray, List.getElem?_cons_succ, List.getElem?_cons_zero]; rfl) ?hw35 rfl ?hx35 ?hz35 ?hv35 hrF ?hn35; (case hw35 => rfl); (case hx35 => (simp only [Act.eval, Array.getD_eq_getD_getElem?, List.getElem?_toArray, List.getElem?_cons_succ, List.getElem?_cons_zero, Option.getD_some]; (try rfl))); (case hz35 => (simp only [Act.eval, Array.getD_eq_getD_getElem?, List.getElem?_toArray, List.getElem?_cons_succ, List.getElem?_cons_zero, Option.getD_some]; (try rfl))); (case hv35 => (simp only [Act.eval, Array.getD_eq_getD_getElem?, List.getElem?_toArray, List.getElem?_cons_succ, List.getElem?_cons_zero, Option.getD_some]; (try rfl))); (try simp only [Act.put, List.setIfInBounds_toArray, List.set_cons_zero, List.set_cons_succ]))
                  rw [show ([10] : List Nat).erase 10 = [] from rfl]
                  refine allE_nil ?_
                  go_wp2_with fail; go_meet; exact HEND.out
              · exact no_head (by kernel_rfl) hbA
            · clear hbA
              (refine eff_value (v := ?v36) (w' := ?w36) (by simp only [List.getElem?_toArray, List.getElem?_cons_succ, List.getElem?_cons_zero]; rfl) ?hw36 ?hy36 ?hn36; (case hw36 => rfl); (case hy36 => (go_simp; (try (first | with_reducible rfl | (constructor <;> with_reducible rfl))))); (try simp only [Act.put, List.setIfInBounds_toArray, List.set_cons_zero, List.set_cons_succ]))
              rw [show ([7, 9, 10] : List Nat).erase 9 = [7, 10] from rfl]
              (intro iA hiA hbA; simp only [List.mem_cons, List.not_mem_nil, or_false] at hiA; rcases hiA with rfl | rfl)
              · clear hbA
                (refine eff_value (v := ?v37) (w' := ?w37) (by simp only [List.getElem?_toArray, List.getElem?_cons_succ, List.getElem?_cons_zero]; rfl) ?hw37 ?hy37 ?hn37; (case hw37 => rfl); (case hy37 => (go_simp; (try (first | with_reducible rfl | (constructor <;> with_reducible rfl))))); (try simp only [Act.put, List.setIfInBounds_toArray, List.set_cons_zero, List.set_cons_succ]))
                rw [show ([7, 10] : List Nat).erase 7 = [10] from rfl]
                (intro iA hiA hbA; simp only [List.mem_cons, List.not_mem_nil, or_false] at hiA; subst hiA)
                · clear hbA
                  (refine eff_estore (by simp only [List.getElem?_toArray, List.getElem?_cons_succ, List.getElem?_cons_zero]; rfl) ?hw38 rfl ?hx38 ?hz38 ?hv38 hrF ?hn38; (case hw38 => rfl); (case hx38 => (simp only [Act.eval, Array.getD_eq_getD_getElem?, List.getElem?_toArray, List.getElem?_cons_succ, List.getElem?_cons_zero, Option.getD_some]; (try rfl))); (case hz38 => (simp only [Act.eval, Array.getD_eq_getD_getElem?, List.getElem?_toArray, List.getElem?_cons_succ, List.getElem?_cons_zero, Option.getD_some]; (try rfl))); (case hv38 => (simp only [Act.eval, Array.getD_eq_getD_getElem?, List.getElem?_toArray, List.getElem?_cons_succ, List.getElem?_cons_zero, Option.getD_some]; (try rfl))); (try simp only [Act.put, List.setIfInBounds_toArray, List.set_cons_zero, List.set_cons_succ]))
                  rw [show ([10] : List Nat).erase 10 = [] from rfl]
                  refine allE_nil ?_
                  go_wp2_with fail; go_meet; exact HEND.out
              · exact no_head (by kernel_rfl) hbA
            · exact no_head (by kernel_rfl) hbA
          · exact no_head (by kernel_rfl) hbA
          · clear hbA
            (refine eff_value (v := ?v39) (w' := ?w39) (by simp only [List.getElem?_toArray, List.getElem?_cons_succ, List.getElem?_cons_zero]; rfl) ?hw39 ?hy39 ?hn39; (case hw39 => rfl); (case hy39 => (go_simp; (try (first | with_reducible rfl | (constructor <;> with_reducible rfl))))); (try simp only [Act.put, List.setIfInBounds_toArray, List.set_cons_zero, List.set_cons_succ]))
            rw [show ([6, 7, 9, 10] : List Nat).erase 9 = [6, 7, 10] from rfl]
            (intro iA hiA hbA; simp only [List.mem_cons, List.not_mem_nil, or_false] at hiA; rcases hiA with rfl | rfl | rfl)
            · clear hbA
              (refine eff_look (by simp only [List.getElem?_toArray, List.getElem?_cons_succ, List.getElem?_cons_zero]; rfl) ?hw40 rfl ?hx40 ?hz40 (by first | exact hl6 | exact hl7) ?hn40; (case hw40 => rfl); (case hx40 => (simp only [Act.eval, Array.getD_eq_getD_getElem?, List.getElem?_toArray, List.getElem?_cons_succ, List.getElem?_cons_zero, Option.getD_some]; (try rfl))); (case hz40 => (simp only [Act.eval, Array.getD_eq_getD_getElem?, List.getElem?_toArray, List.getElem?_cons_succ, List.getElem?_cons_zero, Option.getD_some]; (try rfl))); (try simp only [Act.put, List.setIfInBounds_toArray, List.set_cons_zero, List.set_cons_succ]))
              rw [show ([6, 7, 10] : List Nat).erase 6 = [7, 10] from rfl]
              (intro iA hiA hbA; simp only [List.mem_cons, List.not_mem_nil, or_false] at hiA; rcases hiA with rfl | rfl)
              · clear hbA
                (refine eff_value (v := ?v41) (w' := ?w41) (by simp only [List.getElem?_toArray, List.getElem?_cons_succ, List.getElem?_cons_zero]; rfl) ?hw41 ?hy41 ?hn41; (case hw41 => rfl); (case hy41 => (go_simp; (try (first | with_reducible rfl | (constructor <;> with_reducible rfl))))); (try simp only [Act.put, List.setIfInBounds_toArray, List.set_cons_zero, List.set_cons_succ]))
                rw [show ([7, 10] : List Nat).erase 7 = [10] from rfl]
                (intro iA hiA hbA; simp only [List.mem_cons, List.not_mem_nil, or_false] at hiA; subst hiA)
                · clear hbA
                  (refine eff_estore (by simp only [List.getElem?_toArray, List.getElem?_cons_succ, List.getElem?_cons_zero]; rfl) ?hw42 rfl ?hx42 ?hz42 ?hv42 hrF ?hn42; (case hw42 => rfl); (case hx42 => (simp only [Act.eval, Array.getD_eq_getD_getElem?, List.getElem?_toArray, List.getElem?_cons_succ, List.getElem?_cons_zero, Option.getD_some]; (try rfl))); (case hz42 => (simp only [Act.eval, Array.getD_eq_getD_getElem?, List.getElem?_toArray, List.getElem?_cons_succ, List.getElem?_cons_zero, Option.getD_some]; (try rfl))); (case hv42 => (simp only [Act.eval, Array.getD_eq_getD_getElem?, List.getElem?_toArray, List.getElem?_cons_succ, List.getElem?_cons_zero, Option.getD_some]; (try rfl))); (try simp only [Act.put, List.setIfInBounds_toArray, List.set_cons_zero, List.set_cons_succ]))
                  rw [show ([10] : List Nat).erase 10 = [] from rfl]
                  refine allE_nil ?_
                  go_wp2_with fail; go_meet; exact HEND.out
              · exact no_head (by kernel_rfl) hbA
            · exact no_head (by kernel_rfl) hbA
            · exact no_head (by kernel_rfl) hbA
          · exact no_head (by kernel_rfl) hbA
        · exact no_head (by kernel_rfl) hbA
        · exact no_head (by kernel_rfl) hbA
      case rest =>
      clear kn k7 km kp9 kl hwr HLK HEN m5
      obtain ⟨⟨es2, cl2, km, HM2⟩, k7, kn, kp9, hm2⟩ := hcut
      have HM3 : Hid (put k (qn || b1) (howL (l.take i)) = howL (l.take (i + 1))) := Lib.hid (by
        rw [HT1.out, howL_snoc]
        unfold howR
        rw [HQ.out])
      cases b1 with
      | false =>
        go_wp2_with fail
        go_roundw
        case rel => exact ⟨i + 1, by omega, by go_num, ⟨_, _, km, Lib.hid (by rw [← HM3.out, Bool.or_false]; exact HM2.out)⟩, hm2⟩
        case measure => simp [intOf]; omega
      | true =>
        go_upto_region 12 with fail
        have Lkn := lt_size kn
        have Lk7 := lt_size k7
        have Lkp9 := lt_size kp9
        have Lkm := lt_size km
        refine wp_pass (C := fun _ _ _ => False) (κ := fun i => [1, 0, 0, 1, 0, 1, 5].getD i 0) [0, 1, 2, 3, 4, 5, 6] (by kernel_rfl) (by kernel_rfl) (fun _ _ d _ _ h => by cases d <;> first | exact h | exact absurd h (hP _ _ _)) ?_
        (refine TD.load (v := ?v43) (p := ?p43) (Mod.refl _ _) (by simp only [List.getElem?_toArray, List.getElem?_cons_succ, List.getElem?_cons_zero]; rfl) rfl ?hw43 rfl ?hx43 (fun wq hSq => ?hy43) ?hn43; (case hw43 => rfl); (case hx43 => (simp only [Act.eval, Array.getD_eq_getD_getElem?, List.getElem?_toArray, List.getElem?_cons_succ, List.getElem?_cons_zero, Option.getD_some]; (try rfl))); (case hy43 => (have knq := hSq.at kn (fun h => h); have k7q := hSq.at k7 (fun h => h); have kp9q := hSq.at kp9 (fun h => h); have kmq := hSq.at km (fun h => h); go_simp; (try with_reducible rfl))); (try simp only [Act.put, List.setIfInBounds_toArray, List.set_cons_zero, List.set_cons_succ]))
        (refine TD.val0 (v := ?v44) (by simp only [List.getElem?_toArray, List.getElem?_cons_succ, List.getElem?_cons_zero]; rfl) rfl ?hw44 (fun w1 => ?hy44) ?hn44; (case hw44 => rfl); (case hy44 => (go_simp; (try with_reducible rfl))); (try simp only [Act.put, List.setIfInBounds_toArray, List.set_cons_zero, List.set_cons_succ]))
        (refine TD.val0 (v := ?v45) (by simp only [List.getElem?_toArray, List.getElem?_cons_succ, List.getElem?_cons_zero]; rfl) rfl ?hw45 (fun w1 => ?hy45) ?hn45; (case hw45 => rfl); (case hy45 => (go_simp; (try with_reducible rfl))); (try simp only [Act.put, List.setIfInBounds_toArray, List.set_cons_zero, List.set_cons_succ]))
        (refine TD.load (v := ?v46) (p := ?p46) (Mod.refl _ _) (by simp only [List.getElem?_toArray, List.getElem?_cons_succ, List.getElem?_cons_zero]; rfl) rfl ?hw46 rfl ?hx46 (fun wq hSq => ?hy46) ?hn46; (case hw46 => rfl); (case hx46 => (simp only [Act.eval, Array.getD_eq_getD_getElem?, List.getElem?_toArray, List.getElem?_cons_succ, List.getElem?_cons_zero, Option.getD_some]; (try rfl))); (case hy46 => (have knq := hSq.at kn (fun h => h); have k7q := hSq.at k7 (fun h => h); have kp9q := hSq.at kp9 (fun h => h); have kmq := hSq.at km (fun h => h); go_simp; (try with_reducible rfl))); (try simp only [Act.put, List.setIfInBounds_toArray, List.set_cons_zero, List.set_cons_succ]))
        (refine TD.val0 (v := ?v47) (by simp only [List.getElem?_toArray, List.getElem?_cons_succ, List.getElem?_cons_zero]; rfl) rfl ?hw47 (fun w1 => ?hy47) ?hn47; (case hw47 => rfl); (case hy47 => (go_simp; (try with_reducible rfl))); (try simp only [Act.put, List.setIfInBounds_toArray, List.set_cons_zero, List.set_cons_succ]))
        (refine TD.load (v := ?v48) (p := ?p48) (Mod.refl _ _) (by simp only [List.getElem?_toArray, List.getElem?_cons_succ, List.getElem?_cons_zero]; rfl) rfl ?hw48 rfl ?hx48 (fun wq hSq => ?hy48) ?hn48; (case hw48 => rfl); (case hx48 => (simp only [Act.eval, Array.getD_eq_getD_getElem?, List.getElem?_toArray, List.getElem?_cons_succ, List.getElem?_cons_zero, Option.getD_some]; (try rfl))); (case hy48 => (have knq := hSq.at kn (fun h => h); have k7q := hSq.at k7 (fun h => h); have kp9q := hSq.at kp9 (fun h => h); have kmq := hSq.at km (fun h => h); go_simp; (try with_reducible rfl))); (try simp only [Act.put, List.setIfInBounds_toArray, List.set_cons_zero, List.set_cons_succ]))
        refine TD.eff (by simp only [List.getElem?_toArray, List.getElem?_cons_succ, List.getElem?_cons_zero]; rfl) rfl (fun wE hr => ?_)
        have kn := hr.mod.at0 kn
        have k7 := hr.mod.at0 k7
        have kp9 := hr.mod.at0 kp9
        have km := hr.mod.at0 km
        have mE := hr.mod
        obtain ⟨es49, cl49, hrun49, Mkm⟩ := HM2.out.update keyT Try.underlying63 wE km k true
        (refine eff_update (X := ?X49) (Y := ?Y49) (Z := ?Z49) (w' := ?w49) (by simp only [List.getElem?_toArray, List.getElem?_cons_succ, List.getElem?_cons_zero]; rfl) ?hw49 rfl ?hx49 ?hz49 ?hv49 ?hy49 ?hn49; (case hw49 => rfl); (case hx49 => (simp only [Act.eval, Array.getD_eq_getD_getElem?, List.getElem?_toArray, List.getElem?_cons_succ, List.getElem?_cons_zero, Option.getD_some]; (try rfl))); (case hz49 => (simp only [Act.eval, Array.getD_eq_getD_getElem?, List.getElem?_toArray, List.getElem?_cons_succ, List.getElem?_cons_zero, Option.getD_some]; (try rfl))); (case hv49 => (simp only [Act.eval, Array.getD_eq_getD_getElem?, List.getElem?_toArray, List.getElem?_cons_succ, List.getElem?_cons_zero, Option.getD_some]; (try rfl))); (case hy49 => exact hrun49))
        (first | refine TE.nil_set km (fun w6 km mS => ?_) | refine TE.nil_setCell km (fun w6 km mS => ?_))
        (try simp only [Array.setIfInBounds, List.setIfInBounds_toArray, List.set_cons_zero, List.set_cons_succ] at km)
        have kn := mS.at_ne kn (by omega)
        have k7 := mS.at_ne k7 (by omega)
        have kp9 := mS.at_ne kp9 (by omega)
        have m6 := (hm2.then0 mE).then mS (fun _ _ h => h)
        have HMk := Lib.hid Mkm
        clear Mkm mE mS hr
        go_wp2_with fail
        go_roundw
        case rel => exact ⟨i + 1, by omega, by go_num, ⟨_, _, km, Lib.hid (by have h1 := HMk.out; have h2 := HM3.out; rw [Bool.or_true] at h2; rw [← h2]; rw [put_twice] at h1; exact h1)⟩, m6⟩
        case measure => simp [intOf]; omega
    · obtain rfl : i = l.length := by omega
      rw [List.take_length] at HM
      go_upto_region 14 with fail
      have Lkn := lt_size kn
      have Lk7 := lt_size k7
      have Lkm := lt_size km
      refine wp_pass0 (C := fun _ _ _ => False) (κ := fun i => [3, 4].getD i 0) [0, 1] (by kernel_rfl) (by kernel_rfl) (fun _ _ d _ _ h => by cases d <;> first | exact h | exact absurd h (hP _ _ _)) ?_
      (refine TD.allocB (by simp only [List.getElem?_toArray, List.getElem?_cons_succ, List.getElem?_cons_zero]; rfl) rfl ?hw50 rfl rfl alInt (fun p10 hp10 => ?hn50); (case hw50 => rfl); (try simp only [Act.put, List.setIfInBounds_toArray, List.set_cons_zero, List.set_cons_succ]))
      (refine TD.storeB (d := ?d51) (T := ?T51) (y := ?y51) (p := ?p51) (b := ?b51) (v := ?v51) (by simp only [List.getElem?_toArray, List.getElem?_cons_succ, List.getElem?_cons_zero]; rfl) rfl ?hw51 ?hd51 ?hop51 ?hev51 ?hx51 ?hb51 ?htag51 (fun w1 hb1 => ?hy51) ?hn51; (case hw51 => rfl); (case hd51 => rfl); (case hop51 => rfl); (case hev51 => (simp only [Act.eval, Array.getD_eq_getD_getElem?, List.getElem?_toArray, List.getElem?_cons_succ, List.getElem?_cons_zero, Option.getD_some]; (try rfl))); (case hx51 => (simp only [Act.eval, Array.getD_eq_getD_getElem?, List.getElem?_toArray, List.getElem?_cons_succ, List.getElem?_cons_zero, Option.getD_some]; (try rfl))); (case hb51 => first | exact Bx.set_same _ _ _ | (simp only [Bx.set_same]; rfl)); (case hy51 => (go_simp; (try first | with_reducible rfl | (rw [setCell_blk hb1]; rfl)))); (try simp only [Act.put, List.setIfInBounds_toArray, List.set_cons_zero, List.set_cons_succ]))
      refine TD.nil (fun w5 hr => ?_)
      have kn := hr.mod.at kn (fun h => h)
      have k7 := hr.mod.at k7 (fun h => h)
      have km := hr.mod.at km (fun h => h)
      have kp10 := hr.box p10 _ (by first | exact Bx.set_same _ _ _ | (simp only [Bx.set_same]; rfl)); dsimp only [Value.cells] at kp10; obtain ⟨gp10, kp10⟩ := kp10
      have m5 := hr.mod
      clear hr
      have hrg := run_range_map (P := Try.prog) w5 63 23 3 n es1 cl1 Try.underlying63 km
      go_wp2_with fail
      obtain ⟨w6, e6, r, hr6, kr, m6⟩ : ∃ w6, w5.alloc (.mapIter (some n) cl1 #[] cl1) = w6 ∧ ∃ r, w5.heap.size = r ∧ w6.heap[r]? = some (.mapIter (some n) cl1 #[] cl1) ∧ Mod (fun _ => False) w5 w6 := ⟨_, rfl, _, rfl, heap_alloc_new _ _, (Mod.refl _ _).alloc _⟩
      rw [e6, hr6]
      have hT1 : ∀ i, n ≤ i → tag i = none := fun i hi => by
        cases e : tag i with
        | none => rfl
        | some p =>
          have := HT.out i (HO.out i (by rw [e]; simp))
          omega
      have I := HI.out
      have hTg : T g := HO.out g (by rw [HH.out.tg]; simp)
      have hmW : Mod (fun i => i = g) w2 w6 := (((m4.then hm (fun i hi e => by omega)).then0 m5).then0 m6)
      have hLa : ∀ b ∈ L, T b.a := fun b hb => HO.out b.a (by rw [(HH.out.nodes b.a (List.mem_map.2 ⟨b, hb, rfl⟩)).ta]; simp)
      have hax : ∀ b ∈ L, b.a ≠ n + 1 := fun b hb e => by
        have := HT.out b.a (hLa b hb)
        omega
      have kg6 := m6.at0 (m5.at0 (hm.at HG.out (by omega)))
      have kn6 := m6.at0 kn
      have k76 := m6.at0 k7
      have km6 := m6.at0 km
      have kl6 := m6.at0 kp10
      have hr5 : n < r := by
        have := lt_size km
        omega
      have hp5 : n + 1 + 1 < p10 := by
        have := lt_size k7
        omega
      have L6 := m6.size
      have Lr := lt_size kr
      have Lp := lt_size kl6
      have hF : KF T n w2 L ⟨n + 1, id, chainC (L.map An.cn) id (howL l), q, howL l⟩ n nd (n + 1 + 1) p10 r es1 cl1 := by
        refine ⟨⟨hax, fun b hb c hc e => I.ainj hc hb e, fun b hb => I.nds b hb, fun b hb => ?_, fun b hb => ?_, ?_⟩, HM.out, hbn, by omega, by omega, by omega, Nat.le_refl _, ?_, ?_⟩
        · have := I.ptu b hb; omega
        · have := I.nxl b hb; omega
        · have := I.Llen; omega
        · have := howL_len l
          dsimp only
          omega
        · have := I.Llen; omega
      have hK : KI T n w2 g nb sb q L ⟨n + 1, id, chainC (L.map An.cn) id (howL l), q, howL l⟩ n N nd (n + 1 + 1) p10 r es1 cl1 [] (howL l) S sp (fun i => if i = n then some (n + 1, 1) else if i = n + 1 then some (n + 1, 0) else tag i) (upd nd (n + 1) ⟨id, id, q, 0, .slice none 0 0, [], n, howL l⟩) [] w6 := by
        have ht : ∀ i, i < w2.heap.size → (if i = n then some (n + 1, 1) else if i = n + 1 then some (n + 1, 0) else tag i) = tag i := fun i hi => by
          rw [if_neg (by omega), if_neg (by omega)]
        have htn : ∀ i, n + 1 < i → (if i = n then some (n + 1, 1) else if i = n + 1 then some (n + 1, 0) else tag i) = none := fun i hi => by
          rw [if_neg (by omega), if_neg (by omega)]
          exact hT1 i (by omega)
        refine ⟨⟨?_, ⟨fun b hb => ⟨(nd b.a).nv, ?_⟩, ?_⟩, k76, kl6, fun i hi => ?_, htn _ (by omega), htn _ (by omega)⟩, ⟨I.sn, fun k ⟨h, hh⟩ => (by cases hh), fun k _ => I.sps k⟩, IterAt.start HM.out kr, km6, by simp, Marks.nil _ _, hmW.mono (fun i _ e => by rw [e]; exact hTg), fun i hi => ?_, htn _ ?_⟩
        · refine HH.out.put0 hmW kg6 ht ?_ (fun c hc => ?_)
          · rw [upd_same]
            exact ⟨kn6, SlOwn.nil _ _, ⟨es1, cl1, km6, HM.out⟩, by simp, by simp, fun g hg => by cases hg⟩
          · obtain ⟨b, hb, rfl⟩ := List.mem_map.1 hc
            exact upd_ne _ _ (hax b hb)
        · rw [upd_ne _ _ (hax b hb)]
          simp [srcs]
        · rw [upd_same]
          rfl
        · by_cases h1 : i = n
          · omega
          · by_cases h2 : i = n + 1
            · omega
            · rw [if_neg h1, if_neg h2] at hi
              have := HT.out i (HO.out i hi)
              omega
        · by_cases h1 : i = n
          · omega
          · by_cases h2 : i = n + 1
            · omega
            · rw [if_neg h1, if_neg h2] at hi
              exact .inl (HO.out i hi)
        · have := lt_size k76
          have := lt_size k7
          omega
      have HF := Lib.hid hF
      have HK := Lib.hid hK
      clear hF hK kg6 kn6 k76 km6 kl6 hmW kn k7 km kp10 kr m4 m5 m6 hm hax hLa hT1
      refine keys_c HF.out (by omega) ⟨rfl, rfl, rfl, rfl, rfl, rfl⟩ ⟨_, _, _, _, _, _, HK.out⟩ (fun c a w h => hP c a w h) (fun ⟨a, w, h⟩ => hLo ⟨a, w, h⟩) ?_
      intro D S' sp' tag' nd' a' W' hf K
      obtain ⟨t, ds⟩ := a'
      obtain ⟨f0, f1, f2, f3, f4, f5⟩ := hf
      dsimp only at f0 f1 f2 f3 f4 f5 K
      obtain ⟨u, hu, e⟩ := arr157 t f0
      rw [hu] at f1 f2 f3 f4 f5
      rw [f1, f2, f3, f4, f5] at e
      subst e
      have kg := K.ei.mem.c
      have k7 := K.ei.k7
      obtain ⟨es3, cl3, knb, hMN⟩ := K.ei.mem.kn
      have HMN := Lib.hid hMN
      have HKK := Lib.hid K
      have n7 : n + 1 + 1 ≠ nb := ne_of_obj k7 knb (by simp)
      have ng : g ≠ nb := ne_of_obj kg knb (by simp)
      have HIq := Lib.hid I
      clear K hMN I f0 f1 f2 f3 f4 f5 hu
      go_upto_region 32 with fail
      have Lkg := lt_size kg
      have Lk7 := lt_size k7
      have Lknb := lt_size knb
      refine wp_pass (C := fun _ _ _ => False) (κ := fun i => [0, 0, 0, 1, 0, 1, 5].getD i 0) [0, 1, 2, 3, 4, 5, 6] (by kernel_rfl) (by kernel_rfl) (fun _ _ d _ _ h => by cases d <;> first | exact h | exact absurd h (hP _ _ _)) ?_
      (refine TD.val0 (v := ?v52) (by simp only [List.getElem?_toArray, List.getElem?_cons_succ, List.getElem?_cons_zero]; rfl) rfl ?hw52 (fun w1 => ?hy52) ?hn52; (case hw52 => rfl); (case hy52 => (go_simp; (try with_reducible rfl))); (try simp only [Act.put, List.setIfInBounds_toArray, List.set_cons_zero, List.set_cons_succ]))
      (refine TD.val0 (v := ?v53) (by simp only [List.getElem?_toArray, List.getElem?_cons_succ, List.getElem?_cons_zero]; rfl) rfl ?hw53 (fun w1 => ?hy53) ?hn53; (case hw53 => rfl); (case hy53 => (go_simp; (try with_reducible rfl))); (try simp only [Act.put, List.setIfInBounds_toArray, List.set_cons_zero, List.set_cons_succ]))
      (refine TD.val0 (v := ?v54) (by simp only [List.getElem?_toArray, List.getElem?_cons_succ, List.getElem?_cons_zero]; rfl) rfl ?hw54 (fun w1 => ?hy54) ?hn54; (case hw54 => rfl); (case hy54 => (go_simp; (try with_reducible rfl))); (try simp only [Act.put, List.setIfInBounds_toArray, List.set_cons_zero, List.set_cons_succ]))
      (refine TD.load (v := ?v55) (p := ?p55) (Mod.refl _ _) (by simp only [List.getElem?_toArray, List.getElem?_cons_succ, List.getElem?_cons_zero]; rfl) rfl ?hw55 rfl ?hx55 (fun wq hSq => ?hy55) ?hn55; (case hw55 => rfl); (case hx55 => (simp only [Act.eval, Array.getD_eq_getD_getElem?, List.getElem?_toArray, List.getElem?_cons_succ, List.getElem?_cons_zero, Option.getD_some]; (try rfl))); (case hy55 => (have kgq := hSq.at kg (fun h => h); have k7q := hSq.at k7 (fun h => h); have knbq := hSq.at knb (fun h => h); go_simp; (try with_reducible rfl))); (try simp only [Act.put, List.setIfInBounds_toArray, List.set_cons_zero, List.set_cons_succ]))
      (refine TD.val0 (v := ?v56) (by simp only [List.getElem?_toArray, List.getElem?_cons_succ, List.getElem?_cons_zero]; rfl) rfl ?hw56 (fun w1 => ?hy56) ?hn56; (case hw56 => rfl); (case hy56 => (go_simp; (try with_reducible rfl))); (try simp only [Act.put, List.setIfInBounds_toArray, List.set_cons_zero, List.set_cons_succ]))
      (refine TD.load (v := ?v57) (p := ?p57) (Mod.refl _ _) (by simp only [List.getElem?_toArray, List.getElem?_cons_succ, List.getElem?_cons_zero]; rfl) rfl ?hw57 rfl ?hx57 (fun wq hSq => ?hy57) ?hn57; (case hw57 => rfl); (case hx57 => (simp only [Act.eval, Array.getD_eq_getD_getElem?, List.getElem?_toArray, List.getElem?_cons_succ, List.getElem?_cons_zero, Option.getD_some]; (try rfl))); (case hy57 => (have kgq := hSq.at kg (fun h => h); have k7q := hSq.at k7 (fun h => h); have knbq := hSq.at knb (fun h => h); go_simp; (try with_reducible rfl))); (try simp only [Act.put, List.setIfInBounds_toArray, List.set_cons_zero, List.set_cons_succ]))
      refine TD.eff (by simp only [List.getElem?_toArray, List.getElem?_cons_succ, List.getElem?_cons_zero]; rfl) rfl (fun wE hr => ?_)
      have kg := hr.mod.at0 kg
      have k7 := hr.mod.at0 k7
      have knb := hr.mod.at0 knb
      have mE := hr.mod
      obtain ⟨es58, cl58, hrun58, Mknb⟩ := HMN.out.update idT Try.underlying52 wE knb id (n + 1)
      (refine eff_update (X := ?X58) (Y := ?Y58) (Z := ?Z58) (w' := ?w58) (by simp only [List.getElem?_toArray, List.getElem?_cons_succ, List.getElem?_cons_zero]; rfl) ?hw58 rfl ?hx58 ?hz58 ?hv58 ?hy58 ?hn58; (case hw58 => rfl); (case hx58 => (simp only [Act.eval, Array.getD_eq_getD_getElem?, List.getElem?_toArray, List.getElem?_cons_succ, List.getElem?_cons_zero, Option.getD_some]; (try rfl))); (case hz58 => (simp only [Act.eval, Array.getD_eq_getD_getElem?, List.getElem?_toArray, List.getElem?_cons_succ, List.getElem?_cons_zero, Option.getD_some]; (try rfl))); (case hv58 => (simp only [Act.eval, Array.getD_eq_getD_getElem?, List.getElem?_toArray, List.getElem?_cons_succ, List.getElem?_cons_zero, Option.getD_some]; (try rfl))); (case hy58 => exact hrun58))
      (first | refine TE.nil_set knb (fun w9 knb mS => ?_) | refine TE.nil_setCell knb (fun w9 knb mS => ?_))
      (try simp only [Array.setIfInBounds, List.setIfInBounds_toArray, List.set_cons_zero, List.set_cons_succ] at knb)
      have kg := mS.at_ne kg (by omega)
      have k7 := mS.at_ne k7 (by omega)
      have m9 : Mod (fun i => i = nb) W' w9 := (mE.mono (fun _ _ h => h.elim)).then mS (fun _ _ h => h)
      have HMk := Lib.hid Mknb
      clear mE mS hr Mknb
      go_wp2_with fail
      rw [← HQ1.out]
      refine ⟨by simp, by simp, ?_⟩
      rw [← HQ0.out]
      have K := HKK.out
      have hTnb : T nb := HO.out nb (by rw [HH.out.tnb]; simp)
      have hTsb : T sb := HO.out sb (by rw [HH.out.tsb]; simp)
      have lnb := HT.out nb hTnb
      have lsb := HT.out sb hTsb
      have km9 : w9.heap[n]? = some (.map es1 cl1) := m9.at K.km (by omega)
      refine leaves_marks (n := n) ds w9 (K.mks.mod m9 (fun i hi e => ?_)) (fun w' hm' => ⟨_, results_tmp rfl _ _ _, rfl, fun i => tag' i ≠ none, ⟨tag', nb, sb, L ++ [⟨n + 1, id, chainC (L.map An.cn) id (howL l), q, howL l⟩], put id (n + 1) N, S', nd', sp', ?_, ?_, ?_, fun i hi => hi⟩, ?_, K.ow, fun i hi => ?_⟩)
      · obtain ⟨_, _, h1, _⟩ := K.ei.mem.kn
        rw [e, h1] at hi
        cases hi
      · rw [List.map_append]
        have h1 := K.ei.mem.ids m9 ⟨_, _, knb, HMk.out⟩
        refine h1.turn (B := n + 1) hm' (fun i hi => ⟨?_, fun cs T h => ?_⟩) (by omega) (by omega) (fun c hc => ?_)
        · have : i ≠ n := fun e => by
            rw [e, km9] at hi
            cases hi.2
          have := hi.1
          omega
        · rw [hi.2] at h
          cases h
        · rw [K.ei.kbs c hc]
          by_cases e : c = n + 1
          · rw [if_pos e]; omega
          · rw [if_neg e]
            have hcL : c ∈ L.map An.a := by
              rcases List.mem_append.1 hc with h | h
              · exact h
              · exact absurd (List.mem_singleton.1 h) e
            have h2 := (HH.out.nodes c hcL).tk
            have := HT.out _ (HO.out (nd c).kb (by rw [h2]; simp))
            omega
      · have hlen := howL_len l
        exact HIq.out.put hq HF.out.pf.ha HN.out HM.out.nodup (by omega) (by simpa using K.pm) K.ei.ndp K.spp
      · rw [List.map_append]
        rfl
      · refine ((K.fr.then m9 (fun i hi e => by rw [e]; exact hTnb))).then hm' (fun i hi e => ?_)
        have := e.1
        omega
      · exact Nat.lt_of_lt_of_le (K.ei.hlt i hi) (Nat.le_trans m9.size hm'.size)
end Go.Proofs.Ytffcnnogkpdinaa
