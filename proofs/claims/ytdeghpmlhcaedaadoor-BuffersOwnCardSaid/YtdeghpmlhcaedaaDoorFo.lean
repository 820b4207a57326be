/- Lists in new memory: slices.Clone, slices.Clip, buffers.own at each kind. -/
import Derived.Test.YtdeghpmlhcaedaaDoorRy
import Derived.Test.YtdeghpmlhcaedaaDoorRc
namespace Go.Proofs.YtdeghpmlhcaedaaDoor
open Go.RowKit
open Go.ChangeMaps (setBlock)
set_option linter.unusedSimpArgs false
set_option linter.unusedVariables false
attribute [local go_sem] cell_blk frozen_blk one_int one_bool one_ptr one_slice one_map Value.cells
/-- The block is none that a string shares. -/
def Fz (w : World) (a : Option Addr) : Prop := ∀ p o, a = some ⟨p, o, none⟩ → ∃ C U, w.heap[p]? = some (.cells C U (0, 0))
section
variable {α : Type} {P : Program} {T E : TypeId} {f : α → Array Value} {n B : Nat}
theorem sl_clip (hT : ElT P T E f n B) {g o cap len : Nat} (hk : len ≤ cap) (w : World) :
    (Instr.sliceAt T (.slice (some ⟨g, o, none⟩) len cap) none (some (.int .i64 (len : Int))) (some (.int .i64 (len : Int)))).run P w = .ok (.slice (some ⟨g, o, none⟩) len len) w := by
  obtain ⟨i0, z, hi, hz, hz1, hz2, hz3⟩ := hT.info
  have hadd : (⟨g, o, none⟩ : Addr).add (0 * n) = ⟨g, o, none⟩ := by
    unfold Addr.add
    rw [Nat.zero_mul, if_pos rfl]
  have hp : (0 : Int) ≤ (len : Int) ∧ (len : Int) ≤ (cap : Int) := ⟨by omega, by omega⟩
  have hp2 : (0 : Int) ≤ (len : Int) ∧ (len : Int) ≤ (len : Int) := ⟨by omega, by omega⟩
  simp only [Instr.sliceAt, Instr.slice, Instr.sliceBounds, Instr.sliceBound, asIntOf, sizeOf, typeInfo, run_underlying hT.u, hi, Sem.run_bind, Sem.run_pure, Result.andThen_ok]
  rw [if_pos hp]
  simp only [Sem.run_pure, Result.andThen_ok, Go.program, Sem.run, hi, hz1, Option.map_some, Int.toNat_natCast, hadd, Nat.sub_zero, ite_self, hp2, and_self, if_true]
theorem sl_clip0 (hT : ElT P T E f n B) (w : World) :
    (Instr.sliceAt T (.slice none 0 0) none (some (.int .i64 0)) (some (.int .i64 0))).run P w = .ok (.slice none 0 0) w := by
  obtain ⟨i0, z, hi, hz, hz1, hz2, hz3⟩ := hT.info
  simp only [Instr.sliceAt, Instr.slice, Instr.sliceBounds, Instr.sliceBound, asIntOf, sizeOf, typeInfo, run_underlying hT.u, hi, Sem.run_bind, Sem.run_pure, Result.andThen_ok]
  rw [if_pos ⟨by omega, by omega⟩]
  simp [Sem.run_pure, Result.andThen_ok, Go.program, Sem.run, hi, hz1]
theorem clip_own (hT : ElT P T E f n B) {w : World} {base : Nat} {v : Value} {l : List α} (h : SlOwn f n E w base v l) :
    ∃ a c, v = .slice a l.length c ∧ (∀ w2, (Instr.sliceAt T v none (some (.int .i64 (l.length : Int))) (some (.int .i64 (l.length : Int)))).run P w2 = .ok (.slice a l.length l.length) w2) ∧ SlAt f n w a l ∧ (∀ x, a = some x → base ≤ x.block ∧ v.ownBlock = some x.block) ∧ Fz w a := by
  obtain ⟨a, c, h1, h2, h3, h4⟩ := h.at hT
  rcases h.2 with ⟨rfl, hn⟩ | ⟨g, cap, cur, rfl, hb, hg, hnc, hcm, hcs, htake⟩
  · obtain rfl : l = [] := List.eq_nil_of_length_eq_zero hn
    injection h1 with e1 e2 e3
    subst e1
    exact ⟨none, 0, rfl, fun w2 => sl_clip0 hT w2, h2, fun x hx => ⟨(h3 x hx).1, (h3 x hx).2.2⟩, fun p o e => by cases e⟩
  · injection h1 with e1 e2 e3
    subst e1
    exact ⟨_, cap, rfl, fun w2 => sl_clip hT hnc w2, h2, fun x hx => ⟨(h3 x hx).1, (h3 x hx).2.2⟩, fun p o e => by cases e; exact ⟨_, _, hg⟩⟩
end
section
variable {α : Type} {P : Program} {T E : TypeId} {f : α → Array Value} {n B : Nat}
/-- A list in a block of its own, from its head on. -/
def NewS (f : α → Array Value) (n : Nat) (E : TypeId) (base : Nat) (w : World) (v : Value) (l : List α) : Prop :=
  (v = .slice none 0 0 ∧ l = []) ∨ ∃ g cur, v = .slice (some ⟨g, 0, none⟩) l.length l.length ∧ base ≤ g ∧ w.heap[g]? = some (.cells cur E (0, 0)) ∧ ∀ (i : Nat) x, l[i]? = some x → cur.extract (i * n) (i * n + n) = f x ∧ i * n + n ≤ cur.size
theorem NewS.at {base : Nat} {w : World} {v : Value} {l : List α} (h : NewS f n E base w v l) : ∃ a, v = .slice a l.length l.length ∧ SlAt f n w a l ∧ ∀ g o, a = some ⟨g, o, none⟩ → base ≤ g ∧ g < w.heap.size := by
  rcases h with ⟨rfl, rfl⟩ | ⟨g, cur, rfl, hb, hg, hc⟩
  · exact ⟨none, rfl, .inl rfl, fun g o e => by cases e⟩
  · exact ⟨_, rfl, .inr ⟨g, 0, cur, _, _, rfl, hg, fun i x hx => by simpa using hc i x hx⟩, fun g' o e => by cases e; exact ⟨hb, lt_size hg⟩⟩
theorem NewS.mod {base : Nat} {w w' : World} {v : Value} {l : List α} {S : Nat → Prop} (h : NewS f n E base w v l) (hm : Mod S w w') (hS : ∀ g, v.ownBlock = some g → ¬ S g) : NewS f n E base w' v l := by
  rcases h with h | ⟨g, cur, rfl, hb, hg, hc⟩
  · exact .inl h
  · exact .inr ⟨g, cur, rfl, hb, hm.at hg (hS g rfl), hc⟩
theorem NewS.mod0 {base : Nat} {w w' : World} {v : Value} {l : List α} (h : NewS f n E base w v l) (hm : Mod (fun _ => False) w w') : NewS f n E base w' v l := h.mod hm (fun _ _ h => h)
theorem NewS.base {b b' : Nat} {w : World} {v : Value} {l : List α} (h : NewS f n E b w v l) (hb : b' ≤ b) : NewS f n E b' w v l := by
  rcases h with h | ⟨g, cur, e, h1, h2⟩
  · exact .inl h
  · exact .inr ⟨g, cur, e, Nat.le_trans hb h1, h2⟩
theorem NewS.lt {base : Nat} {w : World} {v : Value} {l : List α} (h : NewS f n E base w v l) : ∀ g, v.ownBlock = some g → base ≤ g ∧ g < w.heap.size := by
  intro g hg
  rcases h with ⟨rfl, _⟩ | ⟨g', cur, rfl, h1, h2, _⟩
  · cases hg
  · cases hg
    exact ⟨h1, lt_size h2⟩
theorem own_e {w : World} {base q : Nat} (hb : base ≤ q) (hg : w.heap[q]? = some (.cells #[] E (0, 0))) : SlOwn f n E w base (.slice (some ⟨q, 0, none⟩) 0 0) ([] : List α) :=
  ⟨by simp [cellsOf], .inr ⟨q, 0, #[], rfl, hb, hg, Nat.le_refl _, by simp [maxLen], by simp, by simp [cellsOf]⟩⟩
/-- Clipped. -/
theorem SlOwn.clip (hT : ElT P T E f n B) {w : World} {base : Nat} {v : Value} {l : List α} (h : SlOwn f n E w base v l) :
    ∃ a c v2, v = .slice a l.length c ∧ (∀ w2, (Instr.sliceAt T v none (some (.int .i64 (l.length : Int))) (some (.int .i64 (l.length : Int)))).run P w2 = .ok v2 w2) ∧ NewS f n E base w v2 l := by
  rcases h.2 with ⟨rfl, hn⟩ | ⟨g, cap, cur, rfl, hb, hg, hnc, hcm, hcs, htake⟩
  · obtain rfl : l = [] := List.eq_nil_of_length_eq_zero hn
    exact ⟨none, 0, _, rfl, fun w2 => sl_clip0 hT w2, .inl ⟨rfl, rfl⟩⟩
  · refine ⟨_, cap, _, rfl, fun w2 => sl_clip hT hnc w2, .inr ⟨g, cur, rfl, hb, hg, fun i x hx => ?_⟩⟩
    obtain ⟨a, c, e, hat, _⟩ := h.at hT
    injection e with e1 _ _
    subst e1
    obtain ⟨b, o, C, U, fr, e2, hb2, he, hle⟩ := hat.block hx
    cases e2
    rw [hg] at hb2
    cases hb2
    simpa using And.intro he hle
end
theorem bsEB (w : World) : (Instr.buildSlice 31 0 #[]).run Tryd.prog w = .ok (.slice (some ⟨w.heap.size, 0, none⟩) 0 0) (w.alloc (.cells #[] 5)) := by kernel_rfl
theorem eqNilB (w : World) (a : Option Addr) (n c : Nat) : (binOp .eql 31 (.slice a n c) (.slice none 0 0)).run Tryd.prog w = .ok (.bool a.isNone) w := by
  cases a <;> kernel_rfl
set_option maxRecDepth 20000 in
set_option maxHeartbeats 1600000 in
theorem cloneB_c {w : World} {a : Option Addr} {l : List UInt8} {c : Nat} (hl : SlAt uc 1 w a l) (hlen : l.length ≤ 1000000) : Calls Tryd.prog 64 #[.slice a l.length c] w fun e w' => ∃ v, e = .returned v ∧ SlOwn uc 1 5 w' w.heap.size v l ∧ Mod (fun _ => False) w w' := by
  have he := eqNilB
  cases a with
  | none =>
    obtain rfl : l = [] := by
      rcases hl with h | ⟨_, _, _, _, _, h, _⟩
      · exact h
      · cases h
    go_enter Tryd.func64, Tryd.ntmps64
    go_wp2_with fail
    go_ret
    exact ⟨_, rfl, SlOwn.nil _ _, Mod.refl _ _⟩
  | some p =>
    have HL := Lib.hid hl
    have hbs := bsEB
    generalize hll : l.length = ll at *
    have HLL := Lib.hid hll
    clear hl hll
    go_enter Tryd.func64, Tryd.ntmps64
    go_upto_region 3 with fail
    refine wp_pass0 (C := fun _ _ _ => False) (κ := fun i => [3, 0, 5, 0].getD i 0) [0, 1, 2, 3] (by kernel_rfl) (by kernel_rfl) (fun _ _ d _ _ h => by cases d <;> first | exact h | exact absurd h (hP _ _ _)) ?_
    (refine TD.bslice (by simp only [zA, zB, zC]; rfl) rfl ?hw1 rfl rfl ?hx1 hbs (fun p5 hp5 => ?hn1); (case hw1 => rfl); (case hx1 => (simp only [List.map_toArray, List.map_cons, List.map_nil, Act.eval, zD, zA, zB, zC, zE]; (try rfl))); (try simp only [Act.put, zF, zG, zH]))
    (refine TD.val0 (v := ?v2) (by simp only [zA, zB, zC]; rfl) rfl ?hw2 (fun w1 => ?hy2) ?hn2; (case hw2 => rfl); (case hy2 => (go_simp; (try with_reducible rfl))); (try simp only [Act.put, zF, zG, zH]))
    refine TD.eff (by simp only [zA, zB, zC]; rfl) rfl (fun w1 hr => ?_)
    have kp5 := hr.box p5 _ (by first | exact Bx.set_same _ _ _ | (simp only [Bx.set_same]; rfl)); dsimp only [Value.cells] at kp5; obtain ⟨gp5, kp5⟩ := kp5
    have m1 := hr.mod
    clear hr
    obtain ⟨v3, w6, hap, hO6, m6, hn6⟩ := SlOwn.append bytesT (c := c) (own_e (f := uc) (n := 1) gp5 kp5) (HL.out.mod0 m1) (by simp; have := HLL.out; omega) (by decide) m1.size 31
    have mF : Mod (fun _ => False) w w6 := m1.then m6 (fun i hi e => by
      have e2 : p5 = i := Option.some.inj e
      omega)
    rw [HLL.out] at hap
    have HO := Lib.hid hO6
    clear hn6 m6 hO6
    (refine eff_append (by simp only [zA, zB, zC]; rfl) ?hw4 rfl ?hx4 ?hz4 hap ?hn4; (case hw4 => rfl); (case hx4 => (simp only [Act.eval, zD, zA, zB, zC, zE]; (try rfl))); (case hz4 => (simp only [Act.eval, zD, zA, zB, zC, zE]; (try rfl))); (try simp only [Act.put, zF, zG, zH]))
    (refine TE.val0 (v := ?v5) (by simp only [zA, zB, zC]; rfl) ?hw5 (fun w1 => ?hy5) ?hn5; (case hw5 => rfl); (case hy5 => (go_simp; (try with_reducible rfl))); (try simp only [Act.put, zF, zG, zH]))
    refine TE.nil ?_
    go_wp2_with fail
    go_ret
    exact ⟨_, rfl, HO.out, mF⟩
set_option maxRecDepth 20000 in
theorem clipB_c (v2 : Value) (w : World) (n : Nat) {a : Option Addr} {c : Nat} (h : ∀ w2, (Instr.sliceAt 31 (.slice a n c) none (some (.int .i64 (n : Int))) (some (.int .i64 (n : Int)))).run Tryd.prog w2 = .ok v2 w2) :
    Calls Tryd.prog 63 #[.slice a n c] w fun e w' => e = .returned v2 ∧ w' = w := by
  go_enter Tryd.func63, Tryd.ntmps63
  go_wp2_with fail
  go_ret
  exact ⟨rfl, rfl⟩
set_option maxRecDepth 20000 in
set_option maxHeartbeats 1600000 in
theorem ownB_c {w : World} {a : Option Addr} {l : List UInt8} {c : Nat} (hl : SlAt uc 1 w a l) (hlen : l.length ≤ 1000000) : Calls Tryd.prog 47 #[.slice a l.length c] w fun e w' => ∃ v, e = .returned v ∧ NewS uc 1 5 w.heap.size w' v l ∧ Mod (fun _ => False) w w' := by
  have HC := Lib.hid (fun (_ : True) => cloneB_c (c := c) hl hlen)
  generalize hll : l.length = ll at *
  have HLL := Lib.hid hll
  clear hl hlen hll
  go_enter Tryd.func47, Tryd.ntmps47
  go_wp2_with fail
  go_at_call 64
  refine (HC.out trivial).mono ?_
  rintro e w1 ⟨v, rfl, hO, m1⟩
  obtain ⟨a2, c2, v2, rfl, hcl, hN⟩ := hO.clip bytesT
  have HN := Lib.hid hN
  rw [HLL.out] at hcl
  have HCL := Lib.hid hcl
  rw [HLL.out]
  clear hO hN hcl
  go_wp2_with fail
  go_at_call 63
  refine (clipB_c v2 _ ll HCL.out).mono ?_
  rintro e w2 ⟨rfl, rfl⟩
  go_wp2_with fail
  go_ret
  exact ⟨_, rfl, HN.out, m1⟩
theorem bsER (w : World) : (Instr.buildSlice 44 0 #[]).run Tryd.prog w = .ok (.slice (some ⟨w.heap.size, 0, none⟩) 0 0) (w.alloc (.cells #[] 75)) := by kernel_rfl
theorem eqNilR (w : World) (a : Option Addr) (n c : Nat) : (binOp .eql 44 (.slice a n c) (.slice none 0 0)).run Tryd.prog w = .ok (.bool a.isNone) w := by
  cases a <;> kernel_rfl
set_option maxRecDepth 20000 in
set_option maxHeartbeats 1600000 in
theorem cloneR_c {w : World} {a : Option Addr} {l : List Role} {c : Nat} (hl : SlAt rcr 34 w a l) (hlen : l.length ≤ 1000000) : Calls Tryd.prog 66 #[.slice a l.length c] w fun e w' => ∃ v, e = .returned v ∧ SlOwn rcr 34 75 w' w.heap.size v l ∧ Mod (fun _ => False) w w' := by
  have he := eqNilR
  cases a with
  | none =>
    obtain rfl : l = [] := by
      rcases hl with h | ⟨_, _, _, _, _, h, _⟩
      · exact h
      · cases h
    go_enter Tryd.func66, Tryd.ntmps66
    go_wp2_with fail
    go_ret
    exact ⟨_, rfl, SlOwn.nil _ _, Mod.refl _ _⟩
  | some p =>
    have HL := Lib.hid hl
    have hbs := bsER
    generalize hll : l.length = ll at *
    have HLL := Lib.hid hll
    clear hl hll
    go_enter Tryd.func66, Tryd.ntmps66
    go_upto_region 3 with fail
    refine wp_pass0 (C := fun _ _ _ => False) (κ := fun i => [3, 0, 5, 0].getD i 0) [0, 1, 2, 3] (by kernel_rfl) (by kernel_rfl) (fun _ _ d _ _ h => by cases d <;> first | exact h | exact absurd h (hP _ _ _)) ?_
    (refine TD.bslice (by simp only [zA, zB, zC]; rfl) rfl ?hw6 rfl rfl ?hx6 hbs (fun p5 hp5 => ?hn6); (case hw6 => rfl); (case hx6 => (simp only [List.map_toArray, List.map_cons, List.map_nil, Act.eval, zD, zA, zB, zC, zE]; (try rfl))); (try simp only [Act.put, zF, zG, zH]))
    (refine TD.val0 (v := ?v7) (by simp only [zA, zB, zC]; rfl) rfl ?hw7 (fun w1 => ?hy7) ?hn7; (case hw7 => rfl); (case hy7 => (go_simp; (try with_reducible rfl))); (try simp only [Act.put, zF, zG, zH]))
    refine TD.eff (by simp only [zA, zB, zC]; rfl) rfl (fun w1 hr => ?_)
    have kp5 := hr.box p5 _ (by first | exact Bx.set_same _ _ _ | (simp only [Bx.set_same]; rfl)); dsimp only [Value.cells] at kp5; obtain ⟨gp5, kp5⟩ := kp5
    have m1 := hr.mod
    clear hr
    obtain ⟨v3, w6, hap, hO6, m6, hn6⟩ := SlOwn.append rolesT (c := c) (own_e (f := rcr) (n := 34) gp5 kp5) (HL.out.mod0 m1) (by simp; have := HLL.out; omega) (by decide) m1.size 44
    have mF : Mod (fun _ => False) w w6 := m1.then m6 (fun i hi e => by
      have e2 : p5 = i := Option.some.inj e
      omega)
    rw [HLL.out] at hap
    have HO := Lib.hid hO6
    clear hn6 m6 hO6
    (refine eff_append (by simp only [zA, zB, zC]; rfl) ?hw9 rfl ?hx9 ?hz9 hap ?hn9; (case hw9 => rfl); (case hx9 => (simp only [Act.eval, zD, zA, zB, zC, zE]; (try rfl))); (case hz9 => (simp only [Act.eval, zD, zA, zB, zC, zE]; (try rfl))); (try simp only [Act.put, zF, zG, zH]))
    (refine TE.val0 (v := ?v10) (by simp only [zA, zB, zC]; rfl) ?hw10 (fun w1 => ?hy10) ?hn10; (case hw10 => rfl); (case hy10 => (go_simp; (try with_reducible rfl))); (try simp only [Act.put, zF, zG, zH]))
    refine TE.nil ?_
    go_wp2_with fail
    go_ret
    exact ⟨_, rfl, HO.out, mF⟩
set_option maxRecDepth 20000 in
theorem clipR_c (v2 : Value) (w : World) (n : Nat) {a : Option Addr} {c : Nat} (h : ∀ w2, (Instr.sliceAt 44 (.slice a n c) none (some (.int .i64 (n : Int))) (some (.int .i64 (n : Int)))).run Tryd.prog w2 = .ok v2 w2) :
    Calls Tryd.prog 65 #[.slice a n c] w fun e w' => e = .returned v2 ∧ w' = w := by
  go_enter Tryd.func65, Tryd.ntmps65
  go_wp2_with fail
  go_ret
  exact ⟨rfl, rfl⟩
set_option maxRecDepth 20000 in
set_option maxHeartbeats 1600000 in
theorem ownR_c {w : World} {a : Option Addr} {l : List Role} {c : Nat} (hl : SlAt rcr 34 w a l) (hlen : l.length ≤ 1000000) : Calls Tryd.prog 48 #[.slice a l.length c] w fun e w' => ∃ v, e = .returned v ∧ NewS rcr 34 75 w.heap.size w' v l ∧ Mod (fun _ => False) w w' := by
  have HC := Lib.hid (fun (_ : True) => cloneR_c (c := c) hl hlen)
  generalize hll : l.length = ll at *
  have HLL := Lib.hid hll
  clear hl hlen hll
  go_enter Tryd.func48, Tryd.ntmps48
  go_wp2_with fail
  go_at_call 66
  refine (HC.out trivial).mono ?_
  rintro e w1 ⟨v, rfl, hO, m1⟩
  obtain ⟨a2, c2, v2, rfl, hcl, hN⟩ := hO.clip rolesT
  have HN := Lib.hid hN
  rw [HLL.out] at hcl
  have HCL := Lib.hid hcl
  rw [HLL.out]
  clear hO hN hcl
  go_wp2_with fail
  go_at_call 65
  refine (clipR_c v2 _ ll HCL.out).mono ?_
  rintro e w2 ⟨rfl, rfl⟩
  go_wp2_with fail
  go_ret
  exact ⟨_, rfl, HN.out, m1⟩
theorem bsES (w : World) : (Instr.buildSlice 32 0 #[]).run Tryd.prog w = .ok (.slice (some ⟨w.heap.size, 0, none⟩) 0 0) (w.alloc (.cells #[] 77)) := by kernel_rfl
theorem eqNilS (w : World) (a : Option Addr) (n c : Nat) : (binOp .eql 32 (.slice a n c) (.slice none 0 0)).run Tryd.prog w = .ok (.bool a.isNone) w := by
  cases a <;> kernel_rfl
set_option maxRecDepth 20000 in
set_option maxHeartbeats 1600000 in
theorem cloneS_c {w : World} {a : Option Addr} {l : List Sg} {c : Nat} (hl : SlAt sgc 64 w a l) (hlen : l.length ≤ 1000000) : Calls Tryd.prog 68 #[.slice a l.length c] w fun e w' => ∃ v, e = .returned v ∧ SlOwn sgc 64 77 w' w.heap.size v l ∧ Mod (fun _ => False) w w' := by
  have he := eqNilS
  cases a with
  | none =>
    obtain rfl : l = [] := by
      rcases hl with h | ⟨_, _, _, _, _, h, _⟩
      · exact h
      · cases h
    go_enter Tryd.func68, Tryd.ntmps68
    go_wp2_with fail
    go_ret
    exact ⟨_, rfl, SlOwn.nil _ _, Mod.refl _ _⟩
  | some p =>
    have HL := Lib.hid hl
    have hbs := bsES
    generalize hll : l.length = ll at *
    have HLL := Lib.hid hll
    clear hl hll
    go_enter Tryd.func68, Tryd.ntmps68
    go_upto_region 3 with fail
    refine wp_pass0 (C := fun _ _ _ => False) (κ := fun i => [3, 0, 5, 0].getD i 0) [0, 1, 2, 3] (by kernel_rfl) (by kernel_rfl) (fun _ _ d _ _ h => by cases d <;> first | exact h | exact absurd h (hP _ _ _)) ?_
    (refine TD.bslice (by simp only [zA, zB, zC]; rfl) rfl ?hw11 rfl rfl ?hx11 hbs (fun p5 hp5 => ?hn11); (case hw11 => rfl); (case hx11 => (simp only [List.map_toArray, List.map_cons, List.map_nil, Act.eval, zD, zA, zB, zC, zE]; (try rfl))); (try simp only [Act.put, zF, zG, zH]))
    (refine TD.val0 (v := ?v12) (by simp only [zA, zB, zC]; rfl) rfl ?hw12 (fun w1 => ?hy12) ?hn12; (case hw12 => rfl); (case hy12 => (go_simp; (try with_reducible rfl))); (try simp only [Act.put, zF, zG, zH]))
    refine TD.eff (by simp only [zA, zB, zC]; rfl) rfl (fun w1 hr => ?_)
    have kp5 := hr.box p5 _ (by first | exact Bx.set_same _ _ _ | (simp only [Bx.set_same]; rfl)); dsimp only [Value.cells] at kp5; obtain ⟨gp5, kp5⟩ := kp5
    have m1 := hr.mod
    clear hr
    obtain ⟨v3, w6, hap, hO6, m6, hn6⟩ := SlOwn.append sgT (c := c) (own_e (f := sgc) (n := 64) gp5 kp5) (HL.out.mod0 m1) (by simp; have := HLL.out; omega) (by decide) m1.size 32
    have mF : Mod (fun _ => False) w w6 := m1.then m6 (fun i hi e => by
      have e2 : p5 = i := Option.some.inj e
      omega)
    rw [HLL.out] at hap
    have HO := Lib.hid hO6
    clear hn6 m6 hO6
    (refine eff_append (by simp only [zA, zB, zC]; rfl) ?hw14 rfl ?hx14 ?hz14 hap ?hn14; (case hw14 => rfl); (case hx14 => (simp only [Act.eval, zD, zA, zB, zC, zE]; (try rfl))); (case hz14 => (simp only [Act.eval, zD, zA, zB, zC, zE]; (try rfl))); (try simp only [Act.put, zF, zG, zH]))
    (refine TE.val0 (v := ?v15) (by simp only [zA, zB, zC]; rfl) ?hw15 (fun w1 => ?hy15) ?hn15; (case hw15 => rfl); (case hy15 => (go_simp; (try with_reducible rfl))); (try simp only [Act.put, zF, zG, zH]))
    refine TE.nil ?_
    go_wp2_with fail
    go_ret
    exact ⟨_, rfl, HO.out, mF⟩
set_option maxRecDepth 20000 in
theorem clipS_c (v2 : Value) (w : World) (n : Nat) {a : Option Addr} {c : Nat} (h : ∀ w2, (Instr.sliceAt 32 (.slice a n c) none (some (.int .i64 (n : Int))) (some (.int .i64 (n : Int)))).run Tryd.prog w2 = .ok v2 w2) :
    Calls Tryd.prog 67 #[.slice a n c] w fun e w' => e = .returned v2 ∧ w' = w := by
  go_enter Tryd.func67, Tryd.ntmps67
  go_wp2_with fail
  go_ret
  exact ⟨rfl, rfl⟩
set_option maxRecDepth 20000 in
set_option maxHeartbeats 1600000 in
theorem ownS_c {w : World} {a : Option Addr} {l : List Sg} {c : Nat} (hl : SlAt sgc 64 w a l) (hlen : l.length ≤ 1000000) : Calls Tryd.prog 49 #[.slice a l.length c] w fun e w' => ∃ v, e = .returned v ∧ NewS sgc 64 77 w.heap.size w' v l ∧ Mod (fun _ => False) w w' := by
  have HC := Lib.hid (fun (_ : True) => cloneS_c (c := c) hl hlen)
  generalize hll : l.length = ll at *
  have HLL := Lib.hid hll
  clear hl hlen hll
  go_enter Tryd.func49, Tryd.ntmps49
  go_wp2_with fail
  go_at_call 68
  refine (HC.out trivial).mono ?_
  rintro e w1 ⟨v, rfl, hO, m1⟩
  obtain ⟨a2, c2, v2, rfl, hcl, hN⟩ := hO.clip sgT
  have HN := Lib.hid hN
  rw [HLL.out] at hcl
  have HCL := Lib.hid hcl
  rw [HLL.out]
  clear hO hN hcl
  go_wp2_with fail
  go_at_call 67
  refine (clipS_c v2 _ ll HCL.out).mono ?_
  rintro e w2 ⟨rfl, rfl⟩
  go_wp2_with fail
  go_ret
  exact ⟨_, rfl, HN.out, m1⟩
theorem bsEK (w : World) : (Instr.buildSlice 35 0 #[]).run Tryd.prog w = .ok (.slice (some ⟨w.heap.size, 0, none⟩) 0 0) (w.alloc (.cells #[] 69)) := by kernel_rfl
theorem eqNilK (w : World) (a : Option Addr) (n c : Nat) : (binOp .eql 35 (.slice a n c) (.slice none 0 0)).run Tryd.prog w = .ok (.bool a.isNone) w := by
  cases a <;> kernel_rfl
set_option maxRecDepth 20000 in
set_option maxHeartbeats 1600000 in
theorem cloneK_c {w : World} {a : Option Addr} {l : List Key} {c : Nat} (hl : SlAt kc 32 w a l) (hlen : l.length ≤ 1000000) : Calls Tryd.prog 70 #[.slice a l.length c] w fun e w' => ∃ v, e = .returned v ∧ SlOwn kc 32 69 w' w.heap.size v l ∧ Mod (fun _ => False) w w' := by
  have he := eqNilK
  cases a with
  | none =>
    obtain rfl : l = [] := by
      rcases hl with h | ⟨_, _, _, _, _, h, _⟩
      · exact h
      · cases h
    go_enter Tryd.func70, Tryd.ntmps70
    go_wp2_with fail
    go_ret
    exact ⟨_, rfl, SlOwn.nil _ _, Mod.refl _ _⟩
  | some p =>
    have HL := Lib.hid hl
    have hbs := bsEK
    generalize hll : l.length = ll at *
    have HLL := Lib.hid hll
    clear hl hll
    go_enter Tryd.func70, Tryd.ntmps70
    go_upto_region 3 with fail
    refine wp_pass0 (C := fun _ _ _ => False) (κ := fun i => [3, 0, 5, 0].getD i 0) [0, 1, 2, 3] (by kernel_rfl) (by kernel_rfl) (fun _ _ d _ _ h => by cases d <;> first | exact h | exact absurd h (hP _ _ _)) ?_
    (refine TD.bslice (by simp only [zA, zB, zC]; rfl) rfl ?hw16 rfl rfl ?hx16 hbs (fun p5 hp5 => ?hn16); (case hw16 => rfl); (case hx16 => (simp only [List.map_toArray, List.map_cons, List.map_nil, Act.eval, zD, zA, zB, zC, zE]; (try rfl))); (try simp only [Act.put, zF, zG, zH]))
    (refine TD.val0 (v := ?v17) (by simp only [zA, zB, zC]; rfl) rfl ?hw17 (fun w1 => ?hy17) ?hn17; (case hw17 => rfl); (case hy17 => (go_simp; (try with_reducible rfl))); (try simp only [Act.put, zF, zG, zH]))
    refine TD.eff (by simp only [zA, zB, zC]; rfl) rfl (fun w1 hr => ?_)
    have kp5 := hr.box p5 _ (by first | exact Bx.set_same _ _ _ | (simp only [Bx.set_same]; rfl)); dsimp only [Value.cells] at kp5; obtain ⟨gp5, kp5⟩ := kp5
    have m1 := hr.mod
    clear hr
    obtain ⟨v3, w6, hap, hO6, m6, hn6⟩ := SlOwn.append keysT (c := c) (own_e (f := kc) (n := 32) gp5 kp5) (HL.out.mod0 m1) (by simp; have := HLL.out; omega) (by decide) m1.size 35
    have mF : Mod (fun _ => False) w w6 := m1.then m6 (fun i hi e => by
      have e2 : p5 = i := Option.some.inj e
      omega)
    rw [HLL.out] at hap
    have HO := Lib.hid hO6
    clear hn6 m6 hO6
    (refine eff_append (by simp only [zA, zB, zC]; rfl) ?hw19 rfl ?hx19 ?hz19 hap ?hn19; (case hw19 => rfl); (case hx19 => (simp only [Act.eval, zD, zA, zB, zC, zE]; (try rfl))); (case hz19 => (simp only [Act.eval, zD, zA, zB, zC, zE]; (try rfl))); (try simp only [Act.put, zF, zG, zH]))
    (refine TE.val0 (v := ?v20) (by simp only [zA, zB, zC]; rfl) ?hw20 (fun w1 => ?hy20) ?hn20; (case hw20 => rfl); (case hy20 => (go_simp; (try with_reducible rfl))); (try simp only [Act.put, zF, zG, zH]))
    refine TE.nil ?_
    go_wp2_with fail
    go_ret
    exact ⟨_, rfl, HO.out, mF⟩
set_option maxRecDepth 20000 in
theorem clipK_c (v2 : Value) (w : World) (n : Nat) {a : Option Addr} {c : Nat} (h : ∀ w2, (Instr.sliceAt 35 (.slice a n c) none (some (.int .i64 (n : Int))) (some (.int .i64 (n : Int)))).run Tryd.prog w2 = .ok v2 w2) :
    Calls Tryd.prog 69 #[.slice a n c] w fun e w' => e = .returned v2 ∧ w' = w := by
  go_enter Tryd.func69, Tryd.ntmps69
  go_wp2_with fail
  go_ret
  exact ⟨rfl, rfl⟩
set_option maxRecDepth 20000 in
set_option maxHeartbeats 1600000 in
theorem ownK_c {w : World} {a : Option Addr} {l : List Key} {c : Nat} (hl : SlAt kc 32 w a l) (hlen : l.length ≤ 1000000) : Calls Tryd.prog 50 #[.slice a l.length c] w fun e w' => ∃ v, e = .returned v ∧ NewS kc 32 69 w.heap.size w' v l ∧ Mod (fun _ => False) w w' := by
  have HC := Lib.hid (fun (_ : True) => cloneK_c (c := c) hl hlen)
  generalize hll : l.length = ll at *
  have HLL := Lib.hid hll
  clear hl hlen hll
  go_enter Tryd.func50, Tryd.ntmps50
  go_wp2_with fail
  go_at_call 70
  refine (HC.out trivial).mono ?_
  rintro e w1 ⟨v, rfl, hO, m1⟩
  obtain ⟨a2, c2, v2, rfl, hcl, hN⟩ := hO.clip keysT
  have HN := Lib.hid hN
  rw [HLL.out] at hcl
  have HCL := Lib.hid hcl
  rw [HLL.out]
  clear hO hN hcl
  go_wp2_with fail
  go_at_call 69
  refine (clipK_c v2 _ ll HCL.out).mono ?_
  rintro e w2 ⟨rfl, rfl⟩
  go_wp2_with fail
  go_ret
  exact ⟨_, rfl, HN.out, m1⟩
theorem bsEI (w : World) : (Instr.buildSlice 38 0 #[]).run Tryd.prog w = .ok (.slice (some ⟨w.heap.size, 0, none⟩) 0 0) (w.alloc (.cells #[] 71)) := by kernel_rfl
theorem eqNilI (w : World) (a : Option Addr) (n c : Nat) : (binOp .eql 38 (.slice a n c) (.slice none 0 0)).run Tryd.prog w = .ok (.bool a.isNone) w := by
  cases a <;> kernel_rfl
set_option maxRecDepth 20000 in
set_option maxHeartbeats 1600000 in
theorem cloneI_c {w : World} {a : Option Addr} {l : List InR} {c : Nat} (hl : SlAt inr 3 w a l) (hlen : l.length ≤ 1000000) : Calls Tryd.prog 72 #[.slice a l.length c] w fun e w' => ∃ v, e = .returned v ∧ SlOwn inr 3 71 w' w.heap.size v l ∧ Mod (fun _ => False) w w' := by
  have he := eqNilI
  cases a with
  | none =>
    obtain rfl : l = [] := by
      rcases hl with h | ⟨_, _, _, _, _, h, _⟩
      · exact h
      · cases h
    go_enter Tryd.func72, Tryd.ntmps72
    go_wp2_with fail
    go_ret
    exact ⟨_, rfl, SlOwn.nil _ _, Mod.refl _ _⟩
  | some p =>
    have HL := Lib.hid hl
    have hbs := bsEI
    generalize hll : l.length = ll at *
    have HLL := Lib.hid hll
    clear hl hll
    go_enter Tryd.func72, Tryd.ntmps72
    go_upto_region 3 with fail
    refine wp_pass0 (C := fun _ _ _ => False) (κ := fun i => [3, 0, 5, 0].getD i 0) [0, 1, 2, 3] (by kernel_rfl) (by kernel_rfl) (fun _ _ d _ _ h => by cases d <;> first | exact h | exact absurd h (hP _ _ _)) ?_
    (refine TD.bslice (by simp only [zA, zB, zC]; rfl) rfl ?hw21 rfl rfl ?hx21 hbs (fun p5 hp5 => ?hn21); (case hw21 => rfl); (case hx21 => (simp only [List.map_toArray, List.map_cons, List.map_nil, Act.eval, zD, zA, zB, zC, zE]; (try rfl))); (try simp only [Act.put, zF, zG, zH]))
    (refine TD.val0 (v := ?v22) (by simp only [zA, zB, zC]; rfl) rfl ?hw22 (fun w1 => ?hy22) ?hn22; (case hw22 => rfl); (case hy22 => (go_simp; (try with_reducible rfl))); (try simp only [Act.put, zF, zG, zH]))
    refine TD.eff (by simp only [zA, zB, zC]; rfl) rfl (fun w1 hr => ?_)
    have kp5 := hr.box p5 _ (by first | exact Bx.set_same _ _ _ | (simp only [Bx.set_same]; rfl)); dsimp only [Value.cells] at kp5; obtain ⟨gp5, kp5⟩ := kp5
    have m1 := hr.mod
    clear hr
    obtain ⟨v3, w6, hap, hO6, m6, hn6⟩ := SlOwn.append instrT (c := c) (own_e (f := inr) (n := 3) gp5 kp5) (HL.out.mod0 m1) (by simp; have := HLL.out; omega) (by decide) m1.size 38
    have mF : Mod (fun _ => False) w w6 := m1.then m6 (fun i hi e => by
      have e2 : p5 = i := Option.some.inj e
      omega)
    rw [HLL.out] at hap
    have HO := Lib.hid hO6
    clear hn6 m6 hO6
    (refine eff_append (by simp only [zA, zB, zC]; rfl) ?hw24 rfl ?hx24 ?hz24 hap ?hn24; (case hw24 => rfl); (case hx24 => (simp only [Act.eval, zD, zA, zB, zC, zE]; (try rfl))); (case hz24 => (simp only [Act.eval, zD, zA, zB, zC, zE]; (try rfl))); (try simp only [Act.put, zF, zG, zH]))
    (refine TE.val0 (v := ?v25) (by simp only [zA, zB, zC]; rfl) ?hw25 (fun w1 => ?hy25) ?hn25; (case hw25 => rfl); (case hy25 => (go_simp; (try with_reducible rfl))); (try simp only [Act.put, zF, zG, zH]))
    refine TE.nil ?_
    go_wp2_with fail
    go_ret
    exact ⟨_, rfl, HO.out, mF⟩
set_option maxRecDepth 20000 in
theorem clipI_c (v2 : Value) (w : World) (n : Nat) {a : Option Addr} {c : Nat} (h : ∀ w2, (Instr.sliceAt 38 (.slice a n c) none (some (.int .i64 (n : Int))) (some (.int .i64 (n : Int)))).run Tryd.prog w2 = .ok v2 w2) :
    Calls Tryd.prog 71 #[.slice a n c] w fun e w' => e = .returned v2 ∧ w' = w := by
  go_enter Tryd.func71, Tryd.ntmps71
  go_wp2_with fail
  go_ret
  exact ⟨rfl, rfl⟩
set_option maxRecDepth 20000 in
set_option maxHeartbeats 1600000 in
theorem ownI_c {w : World} {a : Option Addr} {l : List InR} {c : Nat} (hl : SlAt inr 3 w a l) (hlen : l.length ≤ 1000000) : Calls Tryd.prog 51 #[.slice a l.length c] w fun e w' => ∃ v, e = .returned v ∧ NewS inr 3 71 w.heap.size w' v l ∧ Mod (fun _ => False) w w' := by
  have HC := Lib.hid (fun (_ : True) => cloneI_c (c := c) hl hlen)
  generalize hll : l.length = ll at *
  have HLL := Lib.hid hll
  clear hl hlen hll
  go_enter Tryd.func51, Tryd.ntmps51
  go_wp2_with fail
  go_at_call 72
  refine (HC.out trivial).mono ?_
  rintro e w1 ⟨v, rfl, hO, m1⟩
  obtain ⟨a2, c2, v2, rfl, hcl, hN⟩ := hO.clip instrT
  have HN := Lib.hid hN
  rw [HLL.out] at hcl
  have HCL := Lib.hid hcl
  rw [HLL.out]
  clear hO hN hcl
  go_wp2_with fail
  go_at_call 71
  refine (clipI_c v2 _ ll HCL.out).mono ?_
  rintro e w2 ⟨rfl, rfl⟩
  go_wp2_with fail
  go_ret
  exact ⟨_, rfl, HN.out, m1⟩
theorem bsEL (w : World) : (Instr.buildSlice 39 0 #[]).run Tryd.prog w = .ok (.slice (some ⟨w.heap.size, 0, none⟩) 0 0) (w.alloc (.cells #[] 73)) := by kernel_rfl
theorem eqNilL (w : World) (a : Option Addr) (n c : Nat) : (binOp .eql 39 (.slice a n c) (.slice none 0 0)).run Tryd.prog w = .ok (.bool a.isNone) w := by
  cases a <;> kernel_rfl
set_option maxRecDepth 20000 in
set_option maxHeartbeats 1600000 in
theorem cloneL_c {w : World} {a : Option Addr} {l : List LoR} {c : Nat} (hl : SlAt lor 34 w a l) (hlen : l.length ≤ 1000000) : Calls Tryd.prog 74 #[.slice a l.length c] w fun e w' => ∃ v, e = .returned v ∧ SlOwn lor 34 73 w' w.heap.size v l ∧ Mod (fun _ => False) w w' := by
  have he := eqNilL
  cases a with
  | none =>
    obtain rfl : l = [] := by
      rcases hl with h | ⟨_, _, _, _, _, h, _⟩
      · exact h
      · cases h
    go_enter Tryd.func74, Tryd.ntmps74
    go_wp2_with fail
    go_ret
    exact ⟨_, rfl, SlOwn.nil _ _, Mod.refl _ _⟩
  | some p =>
    have HL := Lib.hid hl
    have hbs := bsEL
    generalize hll : l.length = ll at *
    have HLL := Lib.hid hll
    clear hl hll
    go_enter Tryd.func74, Tryd.ntmps74
    go_upto_region 3 with fail
    refine wp_pass0 (C := fun _ _ _ => False) (κ := fun i => [3, 0, 5, 0].getD i 0) [0, 1, 2, 3] (by kernel_rfl) (by kernel_rfl) (fun _ _ d _ _ h => by cases d <;> first | exact h | exact absurd h (hP _ _ _)) ?_
    (refine TD.bslice (by simp only [zA, zB, zC]; rfl) rfl ?hw26 rfl rfl ?hx26 hbs (fun p5 hp5 => ?hn26); (case hw26 => rfl); (case hx26 => (simp only [List.map_toArray, List.map_cons, List.map_nil, Act.eval, zD, zA, zB, zC, zE]; (try rfl))); (try simp only [Act.put, zF, zG, zH]))
    (refine TD.val0 (v := ?v27) (by simp only [zA, zB, zC]; rfl) rfl ?hw27 (fun w1 => ?hy27) ?hn27; (case hw27 => rfl); (case hy27 => (go_simp; (try with_reducible rfl))); (try simp only [Act.put, zF, zG, zH]))
    refine TD.eff (by simp only [zA, zB, zC]; rfl) rfl (fun w1 hr => ?_)
    have kp5 := hr.box p5 _ (by first | exact Bx.set_same _ _ _ | (simp only [Bx.set_same]; rfl)); dsimp only [Value.cells] at kp5; obtain ⟨gp5, kp5⟩ := kp5
    have m1 := hr.mod
    clear hr
    obtain ⟨v3, w6, hap, hO6, m6, hn6⟩ := SlOwn.append lookupT (c := c) (own_e (f := lor) (n := 34) gp5 kp5) (HL.out.mod0 m1) (by simp; have := HLL.out; omega) (by decide) m1.size 39
    have mF : Mod (fun _ => False) w w6 := m1.then m6 (fun i hi e => by
      have e2 : p5 = i := Option.some.inj e
      omega)
    rw [HLL.out] at hap
    have HO := Lib.hid hO6
    clear hn6 m6 hO6
    (refine eff_append (by simp only [zA, zB, zC]; rfl) ?hw29 rfl ?hx29 ?hz29 hap ?hn29; (case hw29 => rfl); (case hx29 => (simp only [Act.eval, zD, zA, zB, zC, zE]; (try rfl))); (case hz29 => (simp only [Act.eval, zD, zA, zB, zC, zE]; (try rfl))); (try simp only [Act.put, zF, zG, zH]))
    (refine TE.val0 (v := ?v30) (by simp only [zA, zB, zC]; rfl) ?hw30 (fun w1 => ?hy30) ?hn30; (case hw30 => rfl); (case hy30 => (go_simp; (try with_reducible rfl))); (try simp only [Act.put, zF, zG, zH]))
    refine TE.nil ?_
    go_wp2_with fail
    go_ret
    exact ⟨_, rfl, HO.out, mF⟩
set_option maxRecDepth 20000 in
theorem clipL_c (v2 : Value) (w : World) (n : Nat) {a : Option Addr} {c : Nat} (h : ∀ w2, (Instr.sliceAt 39 (.slice a n c) none (some (.int .i64 (n : Int))) (some (.int .i64 (n : Int)))).run Tryd.prog w2 = .ok v2 w2) :
    Calls Tryd.prog 73 #[.slice a n c] w fun e w' => e = .returned v2 ∧ w' = w := by
  go_enter Tryd.func73, Tryd.ntmps73
  go_wp2_with fail
  go_ret
  exact ⟨rfl, rfl⟩
set_option maxRecDepth 20000 in
set_option maxHeartbeats 1600000 in
theorem ownL_c {w : World} {a : Option Addr} {l : List LoR} {c : Nat} (hl : SlAt lor 34 w a l) (hlen : l.length ≤ 1000000) : Calls Tryd.prog 52 #[.slice a l.length c] w fun e w' => ∃ v, e = .returned v ∧ NewS lor 34 73 w.heap.size w' v l ∧ Mod (fun _ => False) w w' := by
  have HC := Lib.hid (fun (_ : True) => cloneL_c (c := c) hl hlen)
  generalize hll : l.length = ll at *
  have HLL := Lib.hid hll
  clear hl hlen hll
  go_enter Tryd.func52, Tryd.ntmps52
  go_wp2_with fail
  go_at_call 74
  refine (HC.out trivial).mono ?_
  rintro e w1 ⟨v, rfl, hO, m1⟩
  obtain ⟨a2, c2, v2, rfl, hcl, hN⟩ := hO.clip lookupT
  have HN := Lib.hid hN
  rw [HLL.out] at hcl
  have HCL := Lib.hid hcl
  rw [HLL.out]
  clear hO hN hcl
  go_wp2_with fail
  go_at_call 73
  refine (clipL_c v2 _ ll HCL.out).mono ?_
  rintro e w2 ⟨rfl, rfl⟩
  go_wp2_with fail
  go_ret
  exact ⟨_, rfl, HN.out, m1⟩
end Go.Proofs.YtdeghpmlhcaedaaDoor
