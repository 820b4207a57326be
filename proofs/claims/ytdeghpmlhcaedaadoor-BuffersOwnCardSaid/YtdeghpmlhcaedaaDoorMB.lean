/- One text out of several: Ba Bb Bc Bd Be Bg Bh. -/
import Derived.Test.YtdeghpmlhcaedaaDoorFr
import Derived.Test.YtdeghpmlhcaedaaDoorMS
import Derived.Test.YtdeghpmlhcaedaaDoorRch
/- Buffers: what a buffer is; there, rank, held, turn. -/
namespace Go.Proofs.YtdeghpmlhcaedaaDoor
open Go.RowKit
open Go.ChangeMaps (setBlock)
set_option linter.unusedSimpArgs false
set_option linter.unusedVariables false
attribute [local go_sem ↓] wlItem ldItem stItem wlRk ldRk stRk eqRk eqRk2
attribute [local go_sem] cell_blk frozen_blk one_int one_bool one_ptr one_slice one_map Value.cells rkc_size rkc_all1 itr_size itr_all itr_one itr_one' itr_n itr_prio itr_pl itr_sent itr_n' itr_prio' itr_pl' itr_sent' itr_r zItem_size zItem_all zItem_one
def ItR.con (y : ItR) : It := ⟨y.n, y.r.con, y.pl.toNat, y.sent⟩
def conS (R : List (Option ItR)) : List (Option It) := R.map (Option.map ItR.con)
/-- A buffer at b: its slab, its heap, what its items hold. -/
structure Bf (w : World) (b s h : Nat) (R : List (Option ItR)) (C : List Nd) (Ts Th Tr : Nat → Prop) : Prop where
  kb : w.heap[b]? = some (.cells #[ptrV s, ptrV h] 84 (0, 0))
  sat : SAt s R Ts w
  hat : HAt h C Th w
  rd : ∀ (i : Nat) y, R[i]? = some (some y) → RdOk w y.r ∧ RdIn Tr y.r ∧ RdSm y.r.con
  dsh : ∀ i, Ts i → ¬ Th i
  drs : ∀ i, Tr i → ¬ Ts i
  drh : ∀ i, Tr i → ¬ Th i
  db : ¬ Ts b ∧ ¬ Th b ∧ ¬ Tr b
section
variable {w w' : World} {b s h : Nat} {R R' : List (Option ItR)} {C C' : List Nd} {Ts Th Tr Th' Tr' : Nat → Prop}
theorem Bf.mod0 (H : Bf w b s h R C Ts Th Tr) (hm : Mod (fun _ => False) w w') : Bf w' b s h R C Ts Th Tr :=
  ⟨hm.at0 H.kb, (SAt.good s R).cl Ts w w' H.sat (hm.mono (fun _ _ e => e.elim)), (HAt.good h C).cl Th w w' H.hat (hm.mono (fun _ _ e => e.elim)), fun i y hy => ⟨(H.rd i y hy).1.mod0 hm, (H.rd i y hy).2⟩, H.dsh, H.drs, H.drh, H.db⟩
theorem Bf.stepH (H : Bf w b s h R C Ts Th Tr) (hlt : ∀ i, Ts i ∨ Tr i ∨ i = b → i < w.heap.size) (hA : HAt h C' Th' w') (hm : Mod Th w w') (hT : ∀ i, Th' i → Th i ∨ w.heap.size ≤ i) : Bf w' b s h R C' Ts Th' Tr := by
  refine ⟨hm.at H.kb H.db.2.1, (SAt.good s R).cl Ts w w' H.sat (hm.mono (fun i _ e k => H.dsh i k e)), hA, fun i y hy => ⟨(H.rd i y hy).1.mod hm (H.rd i y hy).2.1 (fun j hj => H.drh j hj), (H.rd i y hy).2⟩, fun i hi e => ?_, H.drs, fun i hi e => ?_, H.db.1, fun e => ?_, H.db.2.2⟩
  · rcases hT i e with h | h
    · exact H.dsh i hi h
    · have := hlt i (.inl hi); omega
  · rcases hT i e with h | h
    · exact H.drh i hi h
    · have := hlt i (.inr (.inl hi)); omega
  · rcases hT b e with h | h
    · exact H.db.2.1 h
    · have := hlt b (.inr (.inr rfl)); omega
theorem Bf.stepS (H : Bf w b s h R C Ts Th Tr) (hA : SAt s R' Ts w') (hm : Mod Ts w w') (hrd : ∀ (i : Nat) y, R'[i]? = some (some y) → R[i]? = some (some y) ∨ (RdOk w y.r ∧ RdIn Tr y.r ∧ RdSm y.r.con)) : Bf w' b s h R' C Ts Th Tr := by
  refine ⟨hm.at H.kb H.db.1, hA, (HAt.good h C).cl Th w w' H.hat (hm.mono (fun i _ e k => H.dsh i e k)), fun i y hy => ?_, H.dsh, H.drs, H.drh, H.db⟩
  have h1 : RdOk w y.r ∧ RdIn Tr y.r ∧ RdSm y.r.con := by
    rcases hrd i y hy with h | h
    · exact H.rd i y h
    · exact h
  exact ⟨h1.1.mod hm h1.2.1 (fun j hj => H.drs j hj), h1.2⟩
/-- More is held. -/
theorem Bf.more (H : Bf w b s h R C Ts Th Tr) (hT : ∀ i, Tr i → Tr' i) (h1 : ∀ i, Tr' i → ¬ Ts i) (h2 : ∀ i, Tr' i → ¬ Th i) (h3 : ¬ Tr' b) : Bf w b s h R C Ts Th Tr' :=
  ⟨H.kb, H.sat, H.hat, fun i y hy => ⟨(H.rd i y hy).1, (H.rd i y hy).2.1.mono hT, (H.rd i y hy).2.2⟩, H.dsh, h1, h2, H.db.1, H.db.2.1, h3⟩
end
/-- A buffer at b, in memory made since w0, that keeps S. -/
def BH (w0 : World) (O : Nat → Prop) (b : Nat) (S : List (Option It)) (ws : World) : Prop := ∃ s h R C Ts Th Tr, Bf ws b s h R C Ts Th Tr ∧ S = conS R ∧ C.Perm (wtg 0 S) ∧ (∀ i, Ts i ∨ Th i ∨ Tr i ∨ i = b → (O i ∨ w0.heap.size ≤ i) ∧ i < ws.heap.size) ∧ Mod O w0 ws
section
variable {w0 w1 w2 ws : World} {O : Nat → Prop} {b : Nat} {S : List (Option It)}
theorem BH.mod0 (H : BH w0 O b S w1) (hm : Mod (fun _ => False) w1 w2) : BH w0 O b S w2 := by
  obtain ⟨s, h, R, C, Ts, Th, Tr, HB, hS, hp, hT, m⟩ := H
  exact ⟨s, h, R, C, Ts, Th, Tr, HB.mod0 hm, hS, hp, fun i hi => ⟨(hT i hi).1, Nat.lt_of_lt_of_le (hT i hi).2 hm.size⟩, m.then0 hm⟩
theorem BH.m (H : BH w0 O b S w1) : Mod O w0 w1 := by
  obtain ⟨s, h, R, C, Ts, Th, Tr, HB, hS, hp, hT, m⟩ := H
  exact m
/-- Seen from a world ahead. -/
theorem BH.from (H : BH w1 O b S w2) (hm : Mod (fun _ => False) w0 w1) : BH w0 O b S w2 := by
  obtain ⟨s, h, R, C, Ts, Th, Tr, HB, hS, hp, hT, m⟩ := H
  exact ⟨s, h, R, C, Ts, Th, Tr, HB, hS, hp, fun i hi => ⟨(hT i hi).1.imp_right (Nat.le_trans hm.size), (hT i hi).2⟩, (hm.mono (fun _ _ h => h.elim)).then m (fun _ _ h => h)⟩
/-- A buffer whose blocks are among T. -/
def BT (b : Nat) (S : List (Option It)) (T : Nat → Prop) (w : World) : Prop := ∃ s h R C Ts Th Tr, Bf w b s h R C Ts Th Tr ∧ S = conS R ∧ C.Perm (wtg 0 S) ∧ (∀ i, Ts i ∨ Th i ∨ Tr i ∨ i = b → T i ∧ i ≠ 0 ∧ i < w.heap.size)
theorem BT.bh {T : Nat → Prop} {w : World} (H : BT b S T w) : BH w (fun i => T i ∧ i ≠ 0) b S w := by
  obtain ⟨s, h, R, C, Ts, Th, Tr, HB, hS, hp, hT⟩ := H
  exact ⟨s, h, R, C, Ts, Th, Tr, HB, hS, hp, fun i hi => ⟨.inl ⟨(hT i hi).1, (hT i hi).2.1⟩, (hT i hi).2.2⟩, Mod.refl _ _⟩
theorem BT.pos {T : Nat → Prop} {w : World} (H : BT b S T w) : 0 < w.heap.size := by
  obtain ⟨s, h, R, C, Ts, Th, Tr, HB, hS, hp, hT⟩ := H
  have := lt_size HB.kb
  omega
theorem BH.bt {T : Nat → Prop} {w w' : World} (H : BH w (fun i => T i ∧ i ≠ 0) b S w') (h0 : 0 < w.heap.size) : BT b S (Grow T w w') w' := by
  obtain ⟨s, h, R, C, Ts, Th, Tr, HB, hS, hp, hT, m⟩ := H
  refine ⟨s, h, R, C, Ts, Th, Tr, HB, hS, hp, fun i hi => ?_⟩
  obtain ⟨h1, h2⟩ := hT i hi
  rcases h1 with h1 | h1
  · exact ⟨.inl h1.1, h1.2, h2⟩
  · exact ⟨.inr ⟨h1, h2⟩, by omega, h2⟩
theorem BH.mt {T : Nat → Prop} {w w' : World} (H : BH w (fun i => T i ∧ i ≠ 0) b S w') : Mod T w w' := H.m.mono (fun _ _ h => h.1)
theorem BT.good (b : Nat) (S : List (Option It)) : Good (BT b S) where
  cl := fun T w w' H hm => by
    obtain ⟨s, h, R, C, Ts, Th, Tr, HB, hS, hp, hT⟩ := H
    have hn : ∀ {X : Nat → Prop}, (∀ i, X i → Ts i ∨ Th i ∨ Tr i ∨ i = b) → Mod (fun i => ¬ X i) w w' := fun hX => hm.mono (fun i _ e k => e (hT i (hX i k)).1)
    refine ⟨s, h, R, C, Ts, Th, Tr, ⟨hm.at HB.kb (fun e => e (hT b (.inr (.inr (.inr rfl)))).1), (SAt.good s R).cl Ts w w' HB.sat (hn (fun i h => .inl h)), (HAt.good h C).cl Th w w' HB.hat (hn (fun i h => .inr (.inl h))), fun i y hy => ⟨(HB.rd i y hy).1.mod (hn (X := Tr) (fun i h => .inr (.inr (.inl h)))) (HB.rd i y hy).2.1 (fun j hj e => e hj), (HB.rd i y hy).2⟩, HB.dsh, HB.drs, HB.drh, HB.db⟩, hS, hp, fun i hi => ⟨(hT i hi).1, (hT i hi).2.1, Nat.lt_of_lt_of_le (hT i hi).2.2 hm.size⟩⟩
  gr := fun T T' w hT' H => by
    obtain ⟨s, h, R, C, Ts, Th, Tr, HB, hS, hp, hT⟩ := H
    exact ⟨s, h, R, C, Ts, Th, Tr, HB, hS, hp, fun i hi => ⟨hT' i (hT i hi).1, (hT i hi).2⟩⟩
theorem SAt.len {s : Nat} {R : List (Option ItR)} {T : Nat → Prop} {w : World} (h : SAt s R T w) : 1 ≤ R.length ∧ R.length ≤ 4096 := by
  obtain ⟨g, u, cur, us, H, _⟩ := h
  exact H.len
theorem BH.len (H : BH w0 O b S w1) : 1 ≤ S.length ∧ S.length ≤ 4096 := by
  obtain ⟨s, h, R, C, Ts, Th, Tr, HB, rfl, hp, hT, m⟩ := H
  simpa [conS] using HB.sat.len
end
theorem con_at {R : List (Option ItR)} {i : Nat} {x : It} (h : (conS R)[i]? = some (some x)) : ∃ y, R[i]? = some (some y) ∧ y.con = x := by
  unfold conS at h
  rw [List.getElem?_map] at h
  cases hR : R[i]? with
  | none => rw [hR] at h; cases h
  | some o =>
    rw [hR] at h
    cases o with
    | none => cases h
    | some y => exact ⟨y, rfl, by simpa using h⟩
theorem con_none {R : List (Option ItR)} {i : Nat} (h : (conS R)[i]? = some none) : R[i]? = some none := by
  unfold conS at h
  rw [List.getElem?_map] at h
  cases hR : R[i]? with
  | none => rw [hR] at h; cases h
  | some o =>
    rw [hR] at h
    cases o with
    | none => rfl
    | some y => cases h
theorem con_set {R : List (Option ItR)} {i : Nat} {y : ItR} : conS (R.set i (some y)) = (conS R).set i (some y.con) := by
  unfold conS
  rw [List.map_set]
  rfl
theorem con_setN {R : List (Option ItR)} {i : Nat} : conS (R.set i none) = (conS R).set i none := by
  unfold conS
  rw [List.map_set]
  rfl
set_option maxRecDepth 20000 in
theorem bthere_c {w : World} {b s h : Nat} (kb : w.heap[b]? = some (.cells #[ptrV s, ptrV h] 84 (0, 0))) : Calls Tryd.prog 26 #[ptrV b] w fun e w' => e = .returned (.bool true) ∧ w' = w := by
  go_enter Tryd.func26, Tryd.ntmps26
  go_wp2_with fail
  go_ret
  exact ⟨rfl, rfl⟩
def ItR.rk (y : ItR) : Rk := ⟨y.r.prio, y.n⟩
theorem con_rk (y : ItR) : y.con.rk = y.rk := rfl
set_option maxRecDepth 20000 in
set_option maxHeartbeats 1600000 in
theorem irank_c (y : ItR) (w : World) : Calls Tryd.prog 30 #[.agg (itr y)] w fun e w' => e = .returned (.agg (rkc y.rk)) ∧ Mod (fun _ => False) w w' := by
  have hb0 : ∀ w, (Instr.build 60 #[(0, u64v y.r.prio), (1, u64v y.n)]).run Tryd.prog w = .ok (.agg (rkc y.rk)) w := fun w => by kernel_rfl
  go_enter Tryd.func30, Tryd.ntmps30
  go_upto_region 0 with fail
  refine wp_pass0 (C := fun _ _ _ => False) (κ := fun i => [3, 3].getD i 0) [0, 1] (by kernel_rfl) (by kernel_rfl) (fun _ _ d _ _ h => by cases d <;> first | exact h | exact absurd h (hP _ _ _)) ?_
  (refine TD.box (v := ?v1) (by simp only [zA, zB, zC]; rfl) rfl ?hw1 rfl rfl ?hx1 (fun p1 hp1 => ?hn1); (case hw1 => rfl); (case hx1 => (simp only [Act.eval, zD, zA, zB, zC, zE]; (try rfl))); (try simp only [Act.put, zF, zG, zH]))
  (refine TD.allocB (by simp only [zA, zB, zC]; rfl) rfl ?hw2 rfl rfl alRk (fun p2 hp2 => ?hn2); (case hw2 => rfl); (try simp only [Act.put, zF, zG, zH]))
  obtain ⟨ne_p2_p1, hp2⟩ := Bx.set_none hp2
  refine TD.nil (fun w1 hr => ?_)
  have kp1 := hr.box p1 _ (by first | exact Bx.set_same _ _ _ | (simp only [Bx.set_ne _ (Ne.symm ne_p2_p1), Bx.set_ne _ ne_p2_p1, Bx.set_same]; rfl)); dsimp only [Value.cells] at kp1; obtain ⟨gp1, kp1⟩ := kp1
  have kp2 := hr.box p2 _ (by first | exact Bx.set_same _ _ _ | (simp only [Bx.set_ne _ (Ne.symm ne_p2_p1), Bx.set_ne _ ne_p2_p1, Bx.set_same]; rfl)); dsimp only [Value.cells] at kp2; obtain ⟨gp2, kp2⟩ := kp2
  have m1 := hr.mod
  clear hr
  replace kp2 : w1.heap[p2]? = some (.cells #[.int .u64 0, .int .u64 0] 60 (0, 0)) := kp2
  go_upto_region 1 with fail
  have Lkp1 := lt_size kp1
  have Lkp2 := lt_size kp2
  refine wp_pass0 (C := fun _ _ _ => False) (κ := fun i => [0, 0, 1, 0, 1, 0, 5].getD i 0) [0, 1, 2, 3, 4, 5, 6] (by kernel_rfl) (by kernel_rfl) (fun _ _ d _ _ h => by cases d <;> first | exact h | exact absurd h (hP _ _ _)) ?_
  (refine TD.val0 (v := ?v3) (by simp only [zA, zB, zC]; rfl) rfl ?hw3 (fun w1 => ?hy3) ?hn3; (case hw3 => rfl); (case hy3 => (go_simp; (try with_reducible rfl))); (try simp only [Act.put, zF, zG, zH]))
  (refine TD.val0 (v := ?v4) (by simp only [zA, zB, zC]; rfl) rfl ?hw4 (fun w1 => ?hy4) ?hn4; (case hw4 => rfl); (case hy4 => (go_simp; (try with_reducible rfl))); (try simp only [Act.put, zF, zG, zH]))
  (refine TD.load (v := ?v5) (p := ?p5) (Mod.refl _ _) (by simp only [zA, zB, zC]; rfl) rfl ?hw5 rfl ?hx5 (fun wq hSq => ?hy5) ?hn5; (case hw5 => rfl); (case hx5 => (simp only [Act.eval, zD, zA, zB, zC, zE]; (try rfl))); (case hy5 => (have kp1q := hSq.at kp1 (fun h => h); have kp2q := hSq.at kp2 (fun h => h); go_simp; (try with_reducible rfl))); (try simp only [Act.put, zF, zG, zH]))
  (refine TD.val0 (v := ?v6) (by simp only [zA, zB, zC]; rfl) rfl ?hw6 (fun w1 => ?hy6) ?hn6; (case hw6 => rfl); (case hy6 => (go_simp; (try with_reducible rfl))); (try simp only [Act.put, zF, zG, zH]))
  (refine TD.load (v := ?v7) (p := ?p7) (Mod.refl _ _) (by simp only [zA, zB, zC]; rfl) rfl ?hw7 rfl ?hx7 (fun wq hSq => ?hy7) ?hn7; (case hw7 => rfl); (case hx7 => (simp only [Act.eval, zD, zA, zB, zC, zE]; (try rfl))); (case hy7 => (have kp1q := hSq.at kp1 (fun h => h); have kp2q := hSq.at kp2 (fun h => h); go_simp; (try with_reducible rfl))); (try simp only [Act.put, zF, zG, zH]))
  (refine TD.build (v := ?v8) (ps := ?p8) (by simp only [zA, zB, zC]; rfl) rfl ?hw8 rfl ?hx8 (fun w1 => ?hy8) ?hn8; (case hw8 => rfl); (case hx8 => (simp only [List.map_toArray, List.map_cons, List.map_nil, Act.eval, zD, zA, zB, zC, zE]; (try rfl))); (case hy8 => (rw [hb0]; (try with_reducible rfl))); (try simp only [Act.put, zF, zG, zH]))
  refine TD.eff (by simp only [zA, zB, zC]; rfl) rfl (fun w2 hr => ?_)
  have kp1 := hr.mod.at kp1 (fun h => h)
  have kp2 := hr.mod.at kp2 (fun h => h)
  have m2 := m1.then0 hr.mod
  clear hr
  (refine eff_store (X := ?X10) (Y := ?Y10) (w' := ?w10) (by simp only [zA, zB, zC]; rfl) ?hw10 rfl ?hx10 ?hz10 ?hy10 ?hn10; (case hw10 => rfl); (case hx10 => (simp only [Act.eval, zD, zA, zB, zC, zE]; (try rfl))); (case hz10 => (simp only [Act.eval, zD, zA, zB, zC, zE]; (try rfl))); (case hy10 => (go_simp; (try with_reducible rfl))))
  (first | refine TE.nil_set kp2 (fun wn kp2 mS => ?_) | refine TE.nil_setCell kp2 (fun wn kp2 mS => ?_))
  (try simp only [Array.setIfInBounds, zF, zG, zH] at kp2)
  have m3 := m2.thenB mS (.inl gp2)
  clear mS
  go_wp2_with fail
  exact bodyPost_ret (results_cell1 (v := .agg (rkc y.rk)) rfl rfl (by rw [ldRk]; simp [kp2, rkc])) rfl ⟨rfl, m3⟩
section
variable {w w' : World} {b s h : Nat} {R R' : List (Option ItR)} {C C' : List Nd} {Ts Th Tr Th' Tr' : Nat → Prop}
theorem sget_c (hs : SAt s R Ts w) {i : Nat} {y : ItR} (hy : R[i]? = some (some y)) : Calls Tryd.prog 43 #[ptrV s, .int .i64 (i : Int)] w fun e w' => e = .returned (.tuple #[.agg (itr y), .int .i64 0]) ∧ Mod (fun _ => False) w w' := by
  obtain ⟨g, u, cur, us, H, _⟩ := hs
  exact getY_c H hy
theorem sgetN_c (hs : SAt s R Ts w) {n : Int} (hn : Away R n) : Calls Tryd.prog 43 #[ptrV s, .int .i64 n] w fun e w' => e = .returned (.tuple #[.agg zItem, .int .i64 11]) ∧ Mod (fun _ => False) w w' := by
  obtain ⟨g, u, cur, us, H, _⟩ := hs
  exact getN_c H hn
theorem sset_c (hs : SAt s R Ts w) {i : Nat} {y : ItR} (hy : R[i]? = some (some y)) (z : ItR) : Calls Tryd.prog 44 #[ptrV s, .int .i64 (i : Int), .agg (itr z)] w fun e w' => e = .returned (.int .i64 0) ∧ SAt s (R.set i (some z)) Ts w' ∧ Mod Ts w w' := by
  obtain ⟨g, u, cur, us, H, h1, h2, h3⟩ := hs
  refine (setY_c H hy z).mono ?_
  rintro e w' ⟨he, cur', H', hm⟩
  exact ⟨he, ⟨g, u, cur', us, H', h1, h2, h3⟩, hm.mono (fun i _ e => by subst e; exact h2)⟩
theorem sfree_c (hs : SAt s R Ts w) {i : Nat} {y : ItR} (hy : R[i]? = some (some y)) : Calls Tryd.prog 32 #[ptrV s, .int .i64 (i : Int)] w fun e w' => e = .returned (.int .i64 0) ∧ SAt s (R.set i none) Ts w' ∧ Mod Ts w w' := by
  obtain ⟨g, u, cur, us, H, h1, h2, h3⟩ := hs
  refine (freeY_c H hy).mono ?_
  rintro e w' ⟨he, cur', us', H', hm⟩
  exact ⟨he, ⟨g, u, cur', us', H', h1, h2, h3⟩, hm.mono (fun i _ e => by rcases e with e | e | e <;> subst e <;> assumption)⟩
theorem sput_c (hs : SAt s R Ts w) (hw : TabW w) (hf : R.countP Option.isSome ≠ R.length) (y : ItR) : Calls Tryd.prog 28 #[ptrV s, .agg (itr y)] w fun e w' => ∃ n : Nat, FreeAt R n ∧ e = .returned (.tuple #[.int .i64 (n : Int), .int .i64 0]) ∧ SAt s (R.set n (some y)) Ts w' ∧ Mod Ts w w' := by
  obtain ⟨g, u, cur, us, H, h1, h2, h3⟩ := hs
  refine (putY_c H hw hf y).mono ?_
  rintro e w' ⟨n, hn, he, cur', us', H', hm⟩
  exact ⟨n, hn, he, ⟨g, u, cur', us', H', h1, h2, h3⟩, hm.mono (fun i _ e => by rcases e with e | e | e <;> subst e <;> assumption)⟩
theorem sputN_c (hs : SAt s R Ts w) (hf : R.countP Option.isSome = R.length) (y : ItR) : Calls Tryd.prog 28 #[ptrV s, .agg (itr y)] w fun e w' => e = .returned (.tuple #[.int .i64 0, .int .i64 3]) ∧ Mod (fun _ => False) w w' := by
  obtain ⟨g, u, cur, us, H, h1, h2, h3⟩ := hs
  exact putN_c H hf y
end
end Go.Proofs.YtdeghpmlhcaedaaDoor
/- Buffers: turn. -/
namespace Go.Proofs.YtdeghpmlhcaedaaDoor
open Go.RowKit
open Go.ChangeMaps (setBlock)
set_option linter.unusedSimpArgs false
set_option linter.unusedVariables false
attribute [local go_sem ↓] wlItem ldItem stItem wlRk ldRk stRk eqRk eqRk2
attribute [local go_sem] cell_blk frozen_blk one_int one_bool one_ptr one_slice one_map Value.cells rkc_size rkc_all1 itr_size itr_all itr_one itr_one' itr_n itr_prio itr_pl itr_sent itr_n' itr_prio' itr_pl' itr_sent' itr_r zItem_size zItem_all zItem_one
theorem u8_zero {p : UInt8} (h : p = 0) : ((p.toNat : Int) == 0) = true := by subst h; rfl
theorem u8_nz {p : UInt8} (h : p ≠ 0) : ((p.toNat : Int) == 0) = false := by
  rw [beq_eq_false_iff_ne]
  intro e
  exact h (UInt8.toNat_inj.1 (by simpa using e))
theorem nodeOf_nz {i : Nat} {x : It} (h : x.pl ≠ 0) : nodeOf i (some x) = [] := by simp [nodeOf, h]
theorem conS_len (R : List (Option ItR)) : (conS R).length = R.length := by simp [conS]
theorem wtgo_len {i : Nat} {S : List (Option It)} : (wtgo i S).length ≤ S.length := by
  unfold wtgo
  rw [List.length_append]
  have h1 := wtg_len (S := S.take i) (k := 0)
  have h2 := wtg_len (S := S.drop (i + 1)) (k := i + 1)
  rw [List.length_take] at h1
  rw [List.length_drop] at h2
  omega
/-- Between the turns of an item: the heap does not hold it; p is a box of the call's own. -/
structure Mid (w0 : World) (O : Nat → Prop) (b p i : Nat) (R : List (Option ItR)) (s h : Nat) (C : List Nd) (Ts Th Tr : Nat → Prop) (w : World) : Prop where
  bf : Bf w b s h R C Ts Th Tr
  perm : C.Perm (wtgo i (conS R))
  lt : ∀ j, Ts j ∨ Th j ∨ Tr j ∨ j = b → (O j ∨ w0.heap.size ≤ j) ∧ j < w.heap.size
  m : Mod O w0 w
  box : ¬ Ts p ∧ ¬ Th p ∧ ¬ Tr p ∧ b ≠ p ∧ w0.heap.size ≤ p
section
variable {w0 w w' : World} {O : Nat → Prop} {b p i s h : Nat} {R : List (Option ItR)} {C : List Nd} {Ts Th Tr : Nat → Prop}
theorem Mid.mod0 (M : Mid w0 O b p i R s h C Ts Th Tr w) (hm : Mod (fun _ => False) w w') : Mid w0 O b p i R s h C Ts Th Tr w' :=
  ⟨M.bf.mod0 hm, M.perm, fun j hj => ⟨(M.lt j hj).1, Nat.lt_of_lt_of_le (M.lt j hj).2 hm.size⟩, M.m.then0 hm, M.box⟩
theorem Mid.setP (M : Mid w0 O b p i R s h C Ts Th Tr w) (hm : Mod (fun j => j = p) w w') : Mid w0 O b p i R s h C Ts Th Tr w' := by
  have H := M.bf
  obtain ⟨b1, b2, b3, b4, b5⟩ := M.box
  refine ⟨⟨hm.at H.kb b4, (SAt.good s R).cl Ts w w' H.sat (hm.mono (fun j _ e k => b1 (e ▸ k))), (HAt.good h C).cl Th w w' H.hat (hm.mono (fun j _ e k => b2 (e ▸ k))), fun k y hy => ⟨(H.rd k y hy).1.mod hm (H.rd k y hy).2.1 (fun j hj e => b3 (e ▸ hj)), (H.rd k y hy).2⟩, H.dsh, H.drs, H.drh, H.db⟩, M.perm, fun j hj => ⟨(M.lt j hj).1, Nat.lt_of_lt_of_le (M.lt j hj).2 hm.size⟩, M.m.thenB hm (.inl b5), M.box⟩
theorem Mid.small (M : Mid w0 O b p i R s h C Ts Th Tr w) : C.length ≤ 700000 := by
  have h1 := M.perm.length_eq
  have h2 := wtgo_len (i := i) (S := conS R)
  rw [conS_len] at h2
  have := M.bf.sat.len.2
  omega
theorem Mid.ids (M : Mid w0 O b p i R s h C Ts Th Tr w) (hi : i < R.length) : ∀ z ∈ C, z.id ≠ idn i := fun z hz => by
  have := M.bf.sat.len.2
  exact wtgo_id (by rw [conS_len]; omega) (M.perm.mem_iff.1 hz) (by rw [conS_len]; exact hi)
end
/-- An item put back at its place: the buffer again. -/
theorem fin_set {w0 w : World} {O : Nat → Prop} {b s h i : Nat} {R : List (Option ItR)} {C : List Nd} {Ts Th Tr : Nat → Prop} (H : Bf w b s h R C Ts Th Tr) (hlt : ∀ j, Ts j ∨ Th j ∨ Tr j ∨ j = b → (O j ∨ w0.heap.size ≤ j) ∧ j < w.heap.size) (m : Mod O w0 w) {y : ItR} (hy : R[i]? = some (some y)) (z : ItR) (hz : z.r = y.r)
    (hp : C.Perm (wtg 0 ((conS R).set i (some z.con)))) : Calls Tryd.prog 44 #[ptrV s, .int .i64 (i : Int), .agg (itr z)] w fun e w' => e = .returned (.int .i64 0) ∧ BH w0 O b ((conS R).set i (some z.con)) w' := by
  refine (sset_c H.sat hy z).mono ?_
  rintro e w' ⟨he, hs, hm⟩
  refine ⟨he, s, h, R.set i (some z), C, Ts, Th, Tr, H.stepS hs hm (fun k y' hy' => ?_), con_set.symm, hp, fun j hj => ⟨(hlt j hj).1, Nat.lt_of_lt_of_le (hlt j hj).2 hm.size⟩, m.then hm (fun j hj e => (hlt j (.inl e)).1.resolve_right (by omega))⟩
  by_cases hk : k = i
  · subst hk
    rw [List.getElem?_set_self (List.getElem?_eq_some_iff.1 hy).1] at hy'
    cases hy'
    refine .inr ?_
    rw [hz]
    exact H.rd k y hy
  · rw [List.getElem?_set_ne (fun e => hk e.symm)] at hy'
    exact .inl hy'
set_option maxRecDepth 20000 in
set_option maxHeartbeats 6400000 in
theorem turn_c {w0 ws : World} {O : Nat → Prop} {b : Nat} {S : List (Option It)} (H : BH w0 O b S ws) {i : Nat} {x : It} (hx : S[i]? = some (some x)) (p : UInt8) : Calls Tryd.prog 38 #[ptrV b, .int .i64 (i : Int), .int .u8 (p.toNat : Int)] ws fun e w' => e = .returned (.tuple #[]) ∧ BH w0 O b (S.set i (some { x with pl := p.toNat })) w' := by
  have hlen := H.len
  obtain ⟨s, h, R, C, Ts, Th, Tr, HB, rfl, hperm, hT, m⟩ := H
  obtain ⟨y, hy, rfl⟩ := con_at hx
  have kb := HB.kb
  have HH := Lib.hid (And.intro HB (And.intro hperm (And.intro hT (And.intro m (And.intro hx hy)))))
  have HLEN : Hid (i < R.length ∧ R.length ≤ 4096) := Lib.hid ⟨(List.getElem?_eq_some_iff.1 hy).1, by rw [conS_len] at hlen; exact hlen.2⟩
  clear HB hperm hT m hx hy hlen
  go_enter Tryd.func38, Tryd.ntmps38
  go_upto_region 0 with fail
  have Lkb := lt_size kb
  refine wp_pass0 (C := fun _ _ v => v = .tuple #[.agg (itr y), .int .i64 0]) (κ := fun i => [0, 0, 0, 0, 1, 0, 2, 0, 0, 0, 3, 4, 0].getD i 0) [0, 1, 2, 3, 4, 5, 6, 7, 8, 9, 10, 11, 12] (by kernel_rfl) (by kernel_rfl) (fun _ _ d _ _ h => by cases d <;> first | exact h | exact absurd h (hP _ _ _)) ?_
  (refine TD.val0 (v := ?v1) (by simp only [zA, zB, zC]; rfl) rfl ?hw1 (fun w1 => ?hy1) ?hn1; (case hw1 => rfl); (case hy1 => (go_simp; (try with_reducible rfl))); (try simp only [Act.put, zF, zG, zH]))
  (refine TD.val0 (v := ?v2) (by simp only [zA, zB, zC]; rfl) rfl ?hw2 (fun w1 => ?hy2) ?hn2; (case hw2 => rfl); (case hy2 => (go_simp; (try with_reducible rfl))); (try simp only [Act.put, zF, zG, zH]))
  (refine TD.val0 (v := ?v3) (by simp only [zA, zB, zC]; rfl) rfl ?hw3 (fun w1 => ?hy3) ?hn3; (case hw3 => rfl); (case hy3 => (go_simp; (try with_reducible rfl))); (try simp only [Act.put, zF, zG, zH]))
  (refine TD.val0 (v := ?v4) (by simp only [zA, zB, zC]; rfl) rfl ?hw4 (fun w1 => ?hy4) ?hn4; (case hw4 => rfl); (case hy4 => (go_simp; (try with_reducible rfl))); (try simp only [Act.put, zF, zG, zH]))
  (refine TD.load (v := ?v5) (p := ?p5) (Mod.refl _ _) (by simp only [zA, zB, zC]; rfl) rfl ?hw5 rfl ?hx5 (fun wq hSq => ?hy5) ?hn5; (case hw5 => rfl); (case hx5 => (simp only [Act.eval, zD, zA, zB, zC, zE]; (try rfl))); (case hy5 => (have kbq := hSq.at kb (fun h => h); go_simp; (try with_reducible rfl))); (try simp only [Act.put, zF, zG, zH]))
  (refine TD.val0 (v := ?v6) (by simp only [zA, zB, zC]; rfl) rfl ?hw6 (fun w1 => ?hy6) ?hn6; (case hw6 => rfl); (case hy6 => (go_simp; (try with_reducible rfl))); (try simp only [Act.put, zF, zG, zH]))
  (refine TD.call (f := ?f7) (args := ?r7) (Mod.refl _ _) (by simp only [zA, zB, zC]; rfl) rfl ?hw7 (fun w1 => ?hy7) ?hsp7 ?hn7; (case hw7 => rfl); (case hy7 => (go_simp; (first | with_reducible rfl | (constructor <;> with_reducible rfl)))); (case hsp7 => (intro wq hSq; have kbq := hSq.at kb (fun h => h); exact (sget_c (HH.out.1.mod0 hSq).sat HH.out.2.2.2.2.2).mono (fun e w' h => ⟨_, h.1, rfl, h.2⟩))); rintro _ rfl; (try simp only [Act.put, zF, zG, zH]))
  (refine TD.val0 (v := ?v8) (by simp only [zA, zB, zC]; rfl) rfl ?hw8 (fun w1 => ?hy8) ?hn8; (case hw8 => rfl); (case hy8 => (go_simp; (try with_reducible rfl))); (try simp only [Act.put, zF, zG, zH]))
  (refine TD.val0 (v := ?v9) (by simp only [zA, zB, zC]; rfl) rfl ?hw9 (fun w1 => ?hy9) ?hn9; (case hw9 => rfl); (case hy9 => (go_simp; (try with_reducible rfl))); (try simp only [Act.put, zF, zG, zH]))
  (refine TD.val0 (v := ?v10) (by simp only [zA, zB, zC]; rfl) rfl ?hw10 (fun w1 => ?hy10) ?hn10; (case hw10 => rfl); (case hy10 => (go_simp; (try with_reducible rfl))); (try simp only [Act.put, zF, zG, zH]))
  (refine TD.allocB (by simp only [zA, zB, zC]; rfl) rfl ?hw11 rfl rfl alItem (fun p6 hp6 => ?hn11); (case hw11 => rfl); (try simp only [Act.put, zF, zG, zH]))
  (refine TD.storeB (d := ?d12) (T := ?T12) (y := ?y12) (p := ?p12) (b := ?b12) (v := ?v12) (by simp only [zA, zB, zC]; rfl) rfl ?hw12 ?hd12 ?hop12 ?hev12 ?hx12 ?hb12 ?htag12 (fun w1 hb1 => ?hy12) ?hn12; (case hw12 => rfl); (case hd12 => rfl); (case hop12 => rfl); (case hev12 => (simp only [Act.eval, zD, zA, zB, zC, zE]; (try rfl))); (case hx12 => (simp only [Act.eval, zD, zA, zB, zC, zE]; (try rfl))); (case hb12 => first | exact Bx.set_same _ _ _ | (simp only [Bx.set_same]; rfl)); (case hy12 => (go_simp; (try first | with_reducible rfl | (rw [setCell_blk hb1]; rfl)))); (try simp only [Act.put, zF, zG, zH]))
  (refine TD.val0 (v := ?v13) (by simp only [zA, zB, zC]; rfl) rfl ?hw13 (fun w1 => ?hy13) ?hn13; (case hw13 => rfl); (case hy13 => (go_simp; (try with_reducible rfl))); (try simp only [Act.put, zF, zG, zH]))
  refine TD.nil (fun w1 hr => ?_)
  have kb := hr.mod.at kb (fun h => h)
  have kp6 := hr.box p6 _ (by first | exact Bx.set_same _ _ _ | (simp only [Bx.set_same]; rfl)); dsimp only [Value.cells] at kp6; obtain ⟨gp6, kp6⟩ := kp6
  have m1 := hr.mod
  clear hr
  have hpb : b ≠ p6 := by omega
  have hbx : ∀ j, Ts j ∨ Th j ∨ Tr j ∨ j = b → j ≠ p6 := fun j hj e => by have := (HH.out.2.2.1 j hj).2; omega
  have HBX := Lib.hid hbx
  clear hbx
  by_cases hw : y.pl = 0
  · have hwz := u8_zero hw
    have HW := Lib.hid hw
    clear hw
    go_upto_region 2 with fail
    have Lkb := lt_size kb
    have Lkp6 := lt_size kp6
    refine wp_pass0 (C := fun _ _ _ => False) (κ := fun i => [0, 0, 0, 0, 1, 0, 5].getD i 0) [0, 1, 2, 3, 4, 5, 6] (by kernel_rfl) (by kernel_rfl) (fun _ _ d _ _ h => by cases d <;> first | exact h | exact absurd h (hP _ _ _)) ?_
    (refine TD.val0 (v := ?v14) (by simp only [zA, zB, zC]; rfl) rfl ?hw14 (fun w1 => ?hy14) ?hn14; (case hw14 => rfl); (case hy14 => (go_simp; (try with_reducible rfl))); (try simp only [Act.put, zF, zG, zH]))
    (refine TD.val0 (v := ?v15) (by simp only [zA, zB, zC]; rfl) rfl ?hw15 (fun w1 => ?hy15) ?hn15; (case hw15 => rfl); (case hy15 => (go_simp; (try with_reducible rfl))); (try simp only [Act.put, zF, zG, zH]))
    (refine TD.val0 (v := ?v16) (by simp only [zA, zB, zC]; rfl) rfl ?hw16 (fun w1 => ?hy16) ?hn16; (case hw16 => rfl); (case hy16 => (go_simp; (try with_reducible rfl))); (try simp only [Act.put, zF, zG, zH]))
    (refine TD.val0 (v := ?v17) (by simp only [zA, zB, zC]; rfl) rfl ?hw17 (fun w1 => ?hy17) ?hn17; (case hw17 => rfl); (case hy17 => (go_simp; (try with_reducible rfl))); (try simp only [Act.put, zF, zG, zH]))
    (refine TD.load (v := ?v18) (p := ?p18) (Mod.refl _ _) (by simp only [zA, zB, zC]; rfl) rfl ?hw18 rfl ?hx18 (fun wq hSq => ?hy18) ?hn18; (case hw18 => rfl); (case hx18 => (simp only [Act.eval, zD, zA, zB, zC, zE]; (try rfl))); (case hy18 => (have kbq := hSq.at kb (fun h => h); have kp6q := hSq.at kp6 (fun h => h); go_simp; (try with_reducible rfl))); (try simp only [Act.put, zF, zG, zH]))
    (refine TD.val0 (v := ?v19) (by simp only [zA, zB, zC]; rfl) rfl ?hw19 (fun w1 => ?hy19) ?hn19; (case hw19 => rfl); (case hy19 => (go_simp; (try with_reducible rfl))); (try simp only [Act.put, zF, zG, zH]))
    refine TD.eff (by simp only [zA, zB, zC]; rfl) rfl (fun w2 hr => ?_)
    have kb := hr.mod.at kb (fun h => h)
    have kp6 := hr.mod.at kp6 (fun h => h)
    have m2 := m1.then0 hr.mod
    have hl2 : p6 < w2.heap.size := lt_size kp6
    clear hr
    have hcall : Calls Tryd.prog 31 #[ptrV h, .int .i64 (i : Int)] w2 fun e w' => e = .returned (.tuple #[.agg (rkc y.rk), .int .i64 0]) ∧ ∃ C1 Th1, Mid w0 O b p6 i R s h C1 Ts Th1 Tr w' ∧ w'.heap[p6]? = some (.cells (itr y) 55 (0, 0)) := by
      obtain ⟨HB, hperm, hT, m, hx, hy⟩ := HH.out
      have hidn : (idn i).toInt = (i : Int) := idn_toInt (by have := HLEN.out; omega)
      have hnm := node_mem hperm hx (by show y.pl.toNat = 0; rw [HW.out]; rfl)
      have hC : C.length ≤ 700000 := by
        rw [hperm.length_eq]
        have := wtg_len (S := conS R) (k := 0)
        rw [conS_len] at this
        have := HLEN.out
        omega
      have HB2 := HB.mod0 m2
      have hc := dropH_c HB2.hat (fun j hj => Nat.lt_of_lt_of_le (hT j (.inr (.inl hj))).2 m2.size) (idn i) hC ⟨_, hnm, rfl⟩
      rw [hidn] at hc
      refine hc.mono ?_
      rintro e w' ⟨⟨z, hz, hzi, he⟩, hA, hm⟩
      have hzr : z.r = y.rk := by
        have hnd : (C.map Nd.id).Nodup := HB.hat.ids
        obtain ⟨a, ha⟩ := List.mem_iff_getElem?.1 hz
        obtain ⟨c, hcc⟩ := List.mem_iff_getElem?.1 hnm
        have e1 : (C.map Nd.id)[a]? = some (idn i) := by rw [List.getElem?_map, ha]; simp [hzi]
        have e2 : (C.map Nd.id)[c]? = some (idn i) := by rw [List.getElem?_map, hcc]; rfl
        have := (List.getElem?_inj (List.getElem?_eq_some_iff.1 e1).1 hnd).1 (e1.trans e2.symm)
        subst this
        rw [ha] at hcc
        cases hcc
        rfl
      rw [hzr] at he
      refine ⟨he, _, Th, ⟨HB2.stepH (fun j hj => Nat.lt_of_lt_of_le (hT j (by rcases hj with hj | hj | hj; exact .inl hj; exact .inr (.inr (.inl hj)); exact .inr (.inr (.inr hj)))).2 m2.size) hA hm (fun j hj => .inl hj), drop_perm (by rw [conS_len]; have := HLEN.out; omega) hperm hx (by show y.pl.toNat = 0; rw [HW.out]; rfl), fun j hj => ⟨(hT j hj).1, Nat.lt_of_lt_of_le (hT j hj).2 (Nat.le_trans m2.size hm.size)⟩, (m.then0 m2).then hm (fun j hj e => (hT j (.inr (.inl e))).1.resolve_right (by omega)), ⟨fun e => HBX.out p6 (.inl e) rfl, fun e => HBX.out p6 (.inr (.inl e)) rfl, fun e => HBX.out p6 (.inr (.inr (.inl e))) rfl, fun e => HBX.out b (.inr (.inr (.inr rfl))) e, Nat.le_trans m.size gp6⟩⟩, hm.at kp6 (fun e => HBX.out p6 (.inr (.inl e)) rfl)⟩
    clear kb kp6
    (refine eff_callP (by simp only [zA, zB, zC]; rfl) ?hw21 ?hy21 hcall (fun wn hP => ?hn21); (case hw21 => rfl); (case hy21 => (go_simp; (try (first | with_reducible rfl | (constructor <;> with_reducible rfl))))); (try simp only [Act.put, zF, zG, zH]))
    refine TE.nil ?_
    clear hcall
    obtain ⟨C1, Th1, hM, kp6⟩ := hP
    have M1 := Lib.hid hM
    clear hM
    go_upto_region 3 with fail
    have Lkp6 := lt_size kp6
    refine wp_pass0 (C := fun _ _ _ => False) (κ := fun i => [0, 0, 5].getD i 0) [0, 1, 2] (by kernel_rfl) (by kernel_rfl) (fun _ _ d _ _ h => by cases d <;> first | exact h | exact absurd h (hP _ _ _)) ?_
    (refine TD.val0 (v := ?v22) (by simp only [zA, zB, zC]; rfl) rfl ?hw22 (fun w1 => ?hy22) ?hn22; (case hw22 => rfl); (case hy22 => (go_simp; (try with_reducible rfl))); (try simp only [Act.put, zF, zG, zH]))
    (refine TD.val0 (v := ?v23) (by simp only [zA, zB, zC]; rfl) rfl ?hw23 (fun w1 => ?hy23) ?hn23; (case hw23 => rfl); (case hy23 => (go_simp; (try with_reducible rfl))); (try simp only [Act.put, zF, zG, zH]))
    refine TD.eff (by simp only [zA, zB, zC]; rfl) rfl (fun wE hr => ?_)
    have kp6 := hr.mod.at0 kp6
    have mE := hr.mod
    (refine eff_store (X := ?X24) (Y := ?Y24) (w' := ?w24) (by simp only [zA, zB, zC]; rfl) ?hw24 rfl ?hx24 ?hz24 ?hy24 ?hn24; (case hw24 => rfl); (case hx24 => (simp only [Act.eval, zD, zA, zB, zC, zE]; (try rfl))); (case hz24 => (simp only [Act.eval, zD, zA, zB, zC, zE]; (try rfl))); (case hy24 => (go_simp; (try with_reducible rfl))))
    (first | refine TE.nil_set kp6 (fun w3 kp6 mS => ?_) | refine TE.nil_setCell kp6 (fun w3 kp6 mS => ?_))
    have M3 := Lib.hid ((M1.out.mod0 mE).setP mS)
    clear mE hr mS M1
    rw [set_pl] at kp6
    by_cases hp : p = 0
    · have hpz := u8_zero hp
      have HP := Lib.hid hp
      clear hp
      have hidn : (idn i).toInt = (i : Int) := idn_toInt (by have := HLEN.out; omega)
      have HC := Lib.hid (And.intro hidn (And.intro M3.out.small (M3.out.ids HLEN.out.1)))
      have kb3 := M3.out.bf.kb
      have nb : ¬ Th1 b := M3.out.bf.db.2.1
      have np : ¬ Th1 p6 := M3.out.box.2.1
      clear hidn
      go_upto_region 5 with fail
      have Lkb3 := lt_size kb3
      have Lkp6 := lt_size kp6
      refine wp_gpass (T0 := Th1) (K := HAt h C1) (κ := fun i => [0, 0, 0, 0, 0, 0, 6, 0, 6].getD i 0) (υ := fun i => [[], [], [], [], [], [], [], [], []].getD i []) [0, 1, 2, 3, 4, 5, 6, 7, 8] (by kernel_rfl) (by kernel_rfl) (HAt.good h C1).cl (M3.out.bf.hat) (fun j hj => (M3.out.lt j (.inr (.inl hj))).2) ?_
      have gK := HAt.good h C1
      (refine TG.v0 (v := ?v25) (by simp only [zA, zB, zC]; rfl) rfl ?hw25 (fun w1 => ?hy25) ?hn25; (case hw25 => rfl); (case hy25 => (go_simp; (try with_reducible rfl))); (try simp only [Act.put, zF, zG, zH]))
      (refine TG.v0 (v := ?v26) (by simp only [zA, zB, zC]; rfl) rfl ?hw26 (fun w1 => ?hy26) ?hn26; (case hw26 => rfl); (case hy26 => (go_simp; (try with_reducible rfl))); (try simp only [Act.put, zF, zG, zH]))
      (refine TG.v0 (v := ?v27) (by simp only [zA, zB, zC]; rfl) rfl ?hw27 (fun w1 => ?hy27) ?hn27; (case hw27 => rfl); (case hy27 => (go_simp; (try with_reducible rfl))); (try simp only [Act.put, zF, zG, zH]))
      (refine TG.v0 (v := ?v28) (by simp only [zA, zB, zC]; rfl) rfl ?hw28 (fun w1 => ?hy28) ?hn28; (case hw28 => rfl); (case hy28 => (go_simp; (try with_reducible rfl))); (try simp only [Act.put, zF, zG, zH]))
      (refine TG.load (v := ?v29) (p := ?p29) (by simp only [zA, zB, zC]; rfl) rfl ?hw29 rfl ?hx29 (fun wq hSq => ?hy29) ?hn29; (case hw29 => rfl); (case hx29 => (simp only [Act.eval, zD, zA, zB, zC, zE]; (try rfl))); (case hy29 => (have kb3q := hSq.at kb3 (by intro hT; first | exact hT | exact absurd hT (by assumption) | omega | (simp only at hT; omega)); have kp6q := hSq.at kp6 (by intro hT; first | exact hT | exact absurd hT (by assumption) | omega | (simp only at hT; omega)); go_simp; (try with_reducible rfl))); (try simp only [Act.put, zF, zG, zH]))
      (refine TG.load (v := ?v30) (p := ?p30) (by simp only [zA, zB, zC]; rfl) rfl ?hw30 rfl ?hx30 (fun wq hSq => ?hy30) ?hn30; (case hw30 => rfl); (case hx30 => (simp only [Act.eval, zD, zA, zB, zC, zE]; (try rfl))); (case hy30 => (have kb3q := hSq.at kb3 (by intro hT; first | exact hT | exact absurd hT (by assumption) | omega | (simp only at hT; omega)); have kp6q := hSq.at kp6 (by intro hT; first | exact hT | exact absurd hT (by assumption) | omega | (simp only at hT; omega)); go_simp; (try with_reducible rfl))); (try simp only [Act.put, zF, zG, zH]))
      (refine TG.callN (f := ?f31) (args := ?r31) (fun v => v = .agg (rkc y.rk)) gK (by simp only [zA, zB, zC]; rfl) rfl ?hw31 (fun w1 => ?hy31) (fun T wq kq ltq hSq ub => ?hsp31) ?hn31; (case hw31 => rfl); (case hy31 => (go_simp; (first | with_reducible rfl | (constructor <;> with_reducible rfl)))); (case hsp31 => (have kb3q := hSq.at kb3 (by intro hT; first | exact hT | exact absurd hT (by assumption) | omega | (simp only at hT; omega)); have kp6q := hSq.at kp6 (by intro hT; first | exact hT | exact absurd hT (by assumption) | omega | (simp only at hT; omega)); exact (irank_c { y with pl := p } wq).mono (fun e w' h => ⟨_, h.1, rfl, h.2⟩))); rintro v31 hC; subst hC; (try simp only [Act.put, zF, zG, zH]))
      (refine TG.v0 (v := ?v32) (by simp only [zA, zB, zC]; rfl) rfl ?hw32 (fun w1 => ?hy32) ?hn32; (case hw32 => rfl); (case hy32 => (go_simp; (try with_reducible rfl))); (try simp only [Act.put, zF, zG, zH]))
      (refine TG.callK (f := ?f33) (args := ?r33) (fun v T w => v = .int .i64 0 ∧ HAt h (C1 ++ [⟨y.rk, idn i⟩]) T w) (fun v => (Good.pure (v = .int .i64 0)).and (HAt.good h (C1 ++ [⟨y.rk, idn i⟩]))) (by simp only [zA, zB, zC]; rfl) rfl ?hw33 (fun w1 => ?hy33) (fun T wq kq ltq hSq ub => ?hsp33) ?hn33; (case hw33 => rfl); (case hy33 => (go_simp; (first | with_reducible rfl | (constructor <;> with_reducible rfl)))); (case hsp33 => (have kb3q := hSq.at kb3 (by intro hT; first | exact hT | exact absurd hT (by assumption) | omega | (simp only at hT; omega)); have kp6q := hSq.at kp6 (by intro hT; first | exact hT | exact absurd hT (by assumption) | omega | (simp only at hT; omega)); have hc := pushH_c kq ltq y.rk (idn i) HC.out.2.1 HC.out.2.2; rw [HC.out.1] at hc; exact hc.mono (fun e w' hh => by obtain ⟨he, T', hA', hm', hg', hl'⟩ := hh; exact ⟨_, he, hm', rfl, (HAt.good h _).gr _ _ _ (fun j hj => by rcases hg' j hj with h9 | h9; exact .inl h9; exact .inr ⟨h9, hl' j hj⟩) hA'⟩))); rintro v33 ⟨wI, TI, hI⟩; replace gK := (fun v => (Good.pure (v = .int .i64 0)).and (HAt.good h (C1 ++ [⟨y.rk, idn i⟩]))) v33; obtain ⟨rfl, _⟩ := hI.k; (try clear hI TI wI); (try simp only [Act.put, zF, zG, zH]))
      refine TG.nil (fun w4 ⟨TR, hr⟩ => ?_)
      have kb3 := hr.mod.at kb3 (by intro hT; first | exact hT | exact absurd hT (by assumption) | omega | (simp only at hT; omega))
      have kp6 := hr.mod.at kp6 (by intro hT; first | exact hT | exact absurd hT (by assumption) | omega | (simp only at hT; omega))
      clear gK
      have HB4 := M3.out.bf.stepH (fun j hj => (M3.out.lt j (by rcases hj with hj | hj | hj; exact .inl hj; exact .inr (.inr (.inl hj)); exact .inr (.inr (.inr hj)))).2) hr.k.2 hr.mod (fun j hj => by
        by_cases h9 : j < w3.heap.size
        · exact .inl (hr.old j h9 hj)
        · exact .inr (by omega))
      have HLT : Hid (∀ j, Ts j ∨ TR j ∨ Tr j ∨ j = b → (O j ∨ w0.heap.size ≤ j) ∧ j < w4.heap.size) := Lib.hid (fun j hj => by
        have hsz := hr.mod.size
        have h0 := M3.out.m.size
        rcases hj with hj | hj | hj
        · have := M3.out.lt j (.inl hj); exact ⟨this.1, by omega⟩
        · refine ⟨?_, hr.lt j hj⟩
          by_cases h9 : j < w3.heap.size
          · exact (M3.out.lt j (.inr (.inl (hr.old j h9 hj)))).1
          · omega
        · have := M3.out.lt j (.inr (.inr hj)); exact ⟨this.1, by omega⟩)
      have HMM : Hid (Mod O w0 w4) := Lib.hid (M3.out.m.then hr.mod (fun j hj e => (M3.out.lt j (.inr (.inl e))).1.resolve_right (by omega)))
      have hpm : List.Perm (C1 ++ [(⟨y.rk, idn i⟩ : Nd)]) (wtg 0 ((conS R).set i (some ({ y with pl := p } : ItR).con))) := push_perm (x := ({ y with pl := p } : ItR).con) M3.out.perm (by rw [conS_len]; exact HLEN.out.1) (by rw [HP.out]; rfl)
      clear hr
      have kbF := HB4.kb
      have HPM := Lib.hid hpm
      have HBF := Lib.hid HB4
      clear HB4
      go_upto_region 6 with fail
      have LkbF := lt_size kbF
      have Lkp6 := lt_size kp6
      refine wp_pass (C := fun _ _ _ => False) (κ := fun i => [0, 0, 0, 0, 1, 0, 1, 5].getD i 0) [0, 1, 2, 3, 4, 5, 6, 7] (by kernel_rfl) (by kernel_rfl) (fun _ _ d _ _ h => by cases d <;> first | exact h | exact absurd h (hP _ _ _)) ?_
      (refine TD.val0 (v := ?v34) (by simp only [zA, zB, zC]; rfl) rfl ?hw34 (fun w1 => ?hy34) ?hn34; (case hw34 => rfl); (case hy34 => (go_simp; (try with_reducible rfl))); (try simp only [Act.put, zF, zG, zH]))
      (refine TD.val0 (v := ?v35) (by simp only [zA, zB, zC]; rfl) rfl ?hw35 (fun w1 => ?hy35) ?hn35; (case hw35 => rfl); (case hy35 => (go_simp; (try with_reducible rfl))); (try simp only [Act.put, zF, zG, zH]))
      (refine TD.val0 (v := ?v36) (by simp only [zA, zB, zC]; rfl) rfl ?hw36 (fun w1 => ?hy36) ?hn36; (case hw36 => rfl); (case hy36 => (go_simp; (try with_reducible rfl))); (try simp only [Act.put, zF, zG, zH]))
      (refine TD.val0 (v := ?v37) (by simp only [zA, zB, zC]; rfl) rfl ?hw37 (fun w1 => ?hy37) ?hn37; (case hw37 => rfl); (case hy37 => (go_simp; (try with_reducible rfl))); (try simp only [Act.put, zF, zG, zH]))
      (refine TD.load (v := ?v38) (p := ?p38) (Mod.refl _ _) (by simp only [zA, zB, zC]; rfl) rfl ?hw38 rfl ?hx38 (fun wq hSq => ?hy38) ?hn38; (case hw38 => rfl); (case hx38 => (simp only [Act.eval, zD, zA, zB, zC, zE]; (try rfl))); (case hy38 => (have kbFq := hSq.at kbF (fun h => h); have kp6q := hSq.at kp6 (fun h => h); go_simp; (try with_reducible rfl))); (try simp only [Act.put, zF, zG, zH]))
      (refine TD.val0 (v := ?v39) (by simp only [zA, zB, zC]; rfl) rfl ?hw39 (fun w1 => ?hy39) ?hn39; (case hw39 => rfl); (case hy39 => (go_simp; (try with_reducible rfl))); (try simp only [Act.put, zF, zG, zH]))
      (refine TD.load (v := ?v40) (p := ?p40) (Mod.refl _ _) (by simp only [zA, zB, zC]; rfl) rfl ?hw40 rfl ?hx40 (fun wq hSq => ?hy40) ?hn40; (case hw40 => rfl); (case hx40 => (simp only [Act.eval, zD, zA, zB, zC, zE]; (try rfl))); (case hy40 => (have kbFq := hSq.at kbF (fun h => h); have kp6q := hSq.at kp6 (fun h => h); go_simp; (try with_reducible rfl))); (try simp only [Act.put, zF, zG, zH]))
      refine TD.eff (by simp only [zA, zB, zC]; rfl) rfl (fun w7 hr => ?_)
      have kbF := hr.mod.at kbF (fun h => h)
      have kp6 := hr.mod.at kp6 (fun h => h)
      have m7 := hr.mod
      clear hr
      have hcall := fin_set (w0 := w0) (HBF.out.mod0 m7) (fun j hj => ⟨(HLT.out j hj).1, Nat.lt_of_lt_of_le (HLT.out j hj).2 m7.size⟩) (HMM.out.then0 m7) HH.out.2.2.2.2.2 { y with pl := p } rfl HPM.out
      clear m7
      (refine eff_callP (by simp only [zA, zB, zC]; rfl) ?hw42 ?hy42 hcall (fun wn hP => ?hn42); (case hw42 => rfl); (case hy42 => (go_simp; (try (first | with_reducible rfl | (constructor <;> with_reducible rfl))))); (try simp only [Act.put, zF, zG, zH]))
      refine TE.nil ?_
      have HX := Lib.hid hP
      clear hP hcall
      go_wp2_with fail
      go_end0
      exact ⟨rfl, HX.out⟩
    · have hpz := u8_nz hp
      have hpm : List.Perm C1 (wtg 0 ((conS R).set i (some ({ y with pl := p } : ItR).con))) := keep_perm M3.out.perm (by rw [conS_len]; exact HLEN.out.1) (nodeOf_nz (fun e => hp (UInt8.toNat_inj.1 e)))
      have HB4 := M3.out.bf
      have HLT := Lib.hid M3.out.lt
      have HMM := Lib.hid M3.out.m
      clear hp
      have kbF := HB4.kb
      have HPM := Lib.hid hpm
      have HBF := Lib.hid HB4
      clear HB4
      go_upto_region 6 with fail
      have LkbF := lt_size kbF
      have Lkp6 := lt_size kp6
      refine wp_pass (C := fun _ _ _ => False) (κ := fun i => [0, 0, 0, 0, 1, 0, 1, 5].getD i 0) [0, 1, 2, 3, 4, 5, 6, 7] (by kernel_rfl) (by kernel_rfl) (fun _ _ d _ _ h => by cases d <;> first | exact h | exact absurd h (hP _ _ _)) ?_
      (refine TD.val0 (v := ?v43) (by simp only [zA, zB, zC]; rfl) rfl ?hw43 (fun w1 => ?hy43) ?hn43; (case hw43 => rfl); (case hy43 => (go_simp; (try with_reducible rfl))); (try simp only [Act.put, zF, zG, zH]))
      (refine TD.val0 (v := ?v44) (by simp only [zA, zB, zC]; rfl) rfl ?hw44 (fun w1 => ?hy44) ?hn44; (case hw44 => rfl); (case hy44 => (go_simp; (try with_reducible rfl))); (try simp only [Act.put, zF, zG, zH]))
      (refine TD.val0 (v := ?v45) (by simp only [zA, zB, zC]; rfl) rfl ?hw45 (fun w1 => ?hy45) ?hn45; (case hw45 => rfl); (case hy45 => (go_simp; (try with_reducible rfl))); (try simp only [Act.put, zF, zG, zH]))
      (refine TD.val0 (v := ?v46) (by simp only [zA, zB, zC]; rfl) rfl ?hw46 (fun w1 => ?hy46) ?hn46; (case hw46 => rfl); (case hy46 => (go_simp; (try with_reducible rfl))); (try simp only [Act.put, zF, zG, zH]))
      (refine TD.load (v := ?v47) (p := ?p47) (Mod.refl _ _) (by simp only [zA, zB, zC]; rfl) rfl ?hw47 rfl ?hx47 (fun wq hSq => ?hy47) ?hn47; (case hw47 => rfl); (case hx47 => (simp only [Act.eval, zD, zA, zB, zC, zE]; (try rfl))); (case hy47 => (have kbFq := hSq.at kbF (fun h => h); have kp6q := hSq.at kp6 (fun h => h); go_simp; (try with_reducible rfl))); (try simp only [Act.put, zF, zG, zH]))
      (refine TD.val0 (v := ?v48) (by simp only [zA, zB, zC]; rfl) rfl ?hw48 (fun w1 => ?hy48) ?hn48; (case hw48 => rfl); (case hy48 => (go_simp; (try with_reducible rfl))); (try simp only [Act.put, zF, zG, zH]))
      (refine TD.load (v := ?v49) (p := ?p49) (Mod.refl _ _) (by simp only [zA, zB, zC]; rfl) rfl ?hw49 rfl ?hx49 (fun wq hSq => ?hy49) ?hn49; (case hw49 => rfl); (case hx49 => (simp only [Act.eval, zD, zA, zB, zC, zE]; (try rfl))); (case hy49 => (have kbFq := hSq.at kbF (fun h => h); have kp6q := hSq.at kp6 (fun h => h); go_simp; (try with_reducible rfl))); (try simp only [Act.put, zF, zG, zH]))
      refine TD.eff (by simp only [zA, zB, zC]; rfl) rfl (fun w7 hr => ?_)
      have kbF := hr.mod.at kbF (fun h => h)
      have kp6 := hr.mod.at kp6 (fun h => h)
      have m7 := hr.mod
      clear hr
      have hcall := fin_set (w0 := w0) (HBF.out.mod0 m7) (fun j hj => ⟨(HLT.out j hj).1, Nat.lt_of_lt_of_le (HLT.out j hj).2 m7.size⟩) (HMM.out.then0 m7) HH.out.2.2.2.2.2 { y with pl := p } rfl HPM.out
      clear m7
      (refine eff_callP (by simp only [zA, zB, zC]; rfl) ?hw51 ?hy51 hcall (fun wn hP => ?hn51); (case hw51 => rfl); (case hy51 => (go_simp; (try (first | with_reducible rfl | (constructor <;> with_reducible rfl))))); (try simp only [Act.put, zF, zG, zH]))
      refine TE.nil ?_
      have HX := Lib.hid hP
      clear hP hcall
      go_wp2_with fail
      go_end0
      exact ⟨rfl, HX.out⟩
  · have hwz := u8_nz hw
    have M1 : Hid (Mid w0 O b p6 i R s h C Ts Th Tr w1) := Lib.hid (by
      obtain ⟨HB, hperm, hT, m, hx, hy⟩ := HH.out
      refine ⟨HB.mod0 m1, (node_none (by rw [conS_len]; have := HLEN.out; omega) hperm hx (nodeOf_nz (fun e => hw (UInt8.toNat_inj.1 e)))).2, fun j hj => ⟨(hT j hj).1, Nat.lt_of_lt_of_le (hT j hj).2 m1.size⟩, m.then0 m1, ⟨fun e => HBX.out p6 (.inl e) rfl, fun e => HBX.out p6 (.inr (.inl e)) rfl, fun e => HBX.out p6 (.inr (.inr (.inl e))) rfl, fun e => HBX.out b (.inr (.inr (.inr rfl))) e, Nat.le_trans m.size gp6⟩⟩)
    obtain ⟨C1, hC1⟩ : ∃ C1, C1 = C := ⟨_, rfl⟩
    obtain ⟨Th1, hTh1⟩ : ∃ Th1, Th1 = Th := ⟨_, rfl⟩
    rw [← hC1, ← hTh1] at M1
    clear kb hw hC1 hTh1
    go_upto_region 3 with fail
    have Lkp6 := lt_size kp6
    refine wp_pass0 (C := fun _ _ _ => False) (κ := fun i => [0, 0, 5].getD i 0) [0, 1, 2] (by kernel_rfl) (by kernel_rfl) (fun _ _ d _ _ h => by cases d <;> first | exact h | exact absurd h (hP _ _ _)) ?_
    (refine TD.val0 (v := ?v52) (by simp only [zA, zB, zC]; rfl) rfl ?hw52 (fun w1 => ?hy52) ?hn52; (case hw52 => rfl); (case hy52 => (go_simp; (try with_reducible rfl))); (try simp only [Act.put, zF, zG, zH]))
    (refine TD.val0 (v := ?v53) (by simp only [zA, zB, zC]; rfl) rfl ?hw53 (fun w1 => ?hy53) ?hn53; (case hw53 => rfl); (case hy53 => (go_simp; (try with_reducible rfl))); (try simp only [Act.put, zF, zG, zH]))
    refine TD.eff (by simp only [zA, zB, zC]; rfl) rfl (fun wE hr => ?_)
    have kp6 := hr.mod.at0 kp6
    have mE := hr.mod
    (refine eff_store (X := ?X54) (Y := ?Y54) (w' := ?w54) (by simp only [zA, zB, zC]; rfl) ?hw54 rfl ?hx54 ?hz54 ?hy54 ?hn54; (case hw54 => rfl); (case hx54 => (simp only [Act.eval, zD, zA, zB, zC, zE]; (try rfl))); (case hz54 => (simp only [Act.eval, zD, zA, zB, zC, zE]; (try rfl))); (case hy54 => (go_simp; (try with_reducible rfl))))
    (first | refine TE.nil_set kp6 (fun w3 kp6 mS => ?_) | refine TE.nil_setCell kp6 (fun w3 kp6 mS => ?_))
    have M3 := Lib.hid ((M1.out.mod0 mE).setP mS)
    clear mE hr mS M1
    rw [set_pl] at kp6
    by_cases hp : p = 0
    · have hpz := u8_zero hp
      have HP := Lib.hid hp
      clear hp
      have hidn : (idn i).toInt = (i : Int) := idn_toInt (by have := HLEN.out; omega)
      have HC := Lib.hid (And.intro hidn (And.intro M3.out.small (M3.out.ids HLEN.out.1)))
      have kb3 := M3.out.bf.kb
      have nb : ¬ Th1 b := M3.out.bf.db.2.1
      have np : ¬ Th1 p6 := M3.out.box.2.1
      clear hidn
      go_upto_region 5 with fail
      have Lkb3 := lt_size kb3
      have Lkp6 := lt_size kp6
      refine wp_gpass (T0 := Th1) (K := HAt h C1) (κ := fun i => [0, 0, 0, 0, 0, 0, 6, 0, 6].getD i 0) (υ := fun i => [[], [], [], [], [], [], [], [], []].getD i []) [0, 1, 2, 3, 4, 5, 6, 7, 8] (by kernel_rfl) (by kernel_rfl) (HAt.good h C1).cl (M3.out.bf.hat) (fun j hj => (M3.out.lt j (.inr (.inl hj))).2) ?_
      have gK := HAt.good h C1
      (refine TG.v0 (v := ?v55) (by simp only [zA, zB, zC]; rfl) rfl ?hw55 (fun w1 => ?hy55) ?hn55; (case hw55 => rfl); (case hy55 => (go_simp; (try with_reducible rfl))); (try simp only [Act.put, zF, zG, zH]))
      (refine TG.v0 (v := ?v56) (by simp only [zA, zB, zC]; rfl) rfl ?hw56 (fun w1 => ?hy56) ?hn56; (case hw56 => rfl); (case hy56 => (go_simp; (try with_reducible rfl))); (try simp only [Act.put, zF, zG, zH]))
      (refine TG.v0 (v := ?v57) (by simp only [zA, zB, zC]; rfl) rfl ?hw57 (fun w1 => ?hy57) ?hn57; (case hw57 => rfl); (case hy57 => (go_simp; (try with_reducible rfl))); (try simp only [Act.put, zF, zG, zH]))
      (refine TG.v0 (v := ?v58) (by simp only [zA, zB, zC]; rfl) rfl ?hw58 (fun w1 => ?hy58) ?hn58; (case hw58 => rfl); (case hy58 => (go_simp; (try with_reducible rfl))); (try simp only [Act.put, zF, zG, zH]))
      (refine TG.load (v := ?v59) (p := ?p59) (by simp only [zA, zB, zC]; rfl) rfl ?hw59 rfl ?hx59 (fun wq hSq => ?hy59) ?hn59; (case hw59 => rfl); (case hx59 => (simp only [Act.eval, zD, zA, zB, zC, zE]; (try rfl))); (case hy59 => (have kb3q := hSq.at kb3 (by intro hT; first | exact hT | exact absurd hT (by assumption) | omega | (simp only at hT; omega)); have kp6q := hSq.at kp6 (by intro hT; first | exact hT | exact absurd hT (by assumption) | omega | (simp only at hT; omega)); go_simp; (try with_reducible rfl))); (try simp only [Act.put, zF, zG, zH]))
      (refine TG.load (v := ?v60) (p := ?p60) (by simp only [zA, zB, zC]; rfl) rfl ?hw60 rfl ?hx60 (fun wq hSq => ?hy60) ?hn60; (case hw60 => rfl); (case hx60 => (simp only [Act.eval, zD, zA, zB, zC, zE]; (try rfl))); (case hy60 => (have kb3q := hSq.at kb3 (by intro hT; first | exact hT | exact absurd hT (by assumption) | omega | (simp only at hT; omega)); have kp6q := hSq.at kp6 (by intro hT; first | exact hT | exact absurd hT (by assumption) | omega | (simp only at hT; omega)); go_simp; (try with_reducible rfl))); (try simp only [Act.put, zF, zG, zH]))
      (refine TG.callN (f := ?f61) (args := ?r61) (fun v => v = .agg (rkc y.rk)) gK (by simp only [zA, zB, zC]; rfl) rfl ?hw61 (fun w1 => ?hy61) (fun T wq kq ltq hSq ub => ?hsp61) ?hn61; (case hw61 => rfl); (case hy61 => (go_simp; (first | with_reducible rfl | (constructor <;> with_reducible rfl)))); (case hsp61 => (have kb3q := hSq.at kb3 (by intro hT; first | exact hT | exact absurd hT (by assumption) | omega | (simp only at hT; omega)); have kp6q := hSq.at kp6 (by intro hT; first | exact hT | exact absurd hT (by assumption) | omega | (simp only at hT; omega)); exact (irank_c { y with pl := p } wq).mono (fun e w' h => ⟨_, h.1, rfl, h.2⟩))); rintro v61 hC; subst hC; (try simp only [Act.put, zF, zG, zH]))
      (refine TG.v0 (v := ?v62) (by simp only [zA, zB, zC]; rfl) rfl ?hw62 (fun w1 => ?hy62) ?hn62; (case hw62 => rfl); (case hy62 => (go_simp; (try with_reducible rfl))); (try simp only [Act.put, zF, zG, zH]))
      (refine TG.callK (f := ?f63) (args := ?r63) (fun v T w => v = .int .i64 0 ∧ HAt h (C1 ++ [⟨y.rk, idn i⟩]) T w) (fun v => (Good.pure (v = .int .i64 0)).and (HAt.good h (C1 ++ [⟨y.rk, idn i⟩]))) (by simp only [zA, zB, zC]; rfl) rfl ?hw63 (fun w1 => ?hy63) (fun T wq kq ltq hSq ub => ?hsp63) ?hn63; (case hw63 => rfl); (case hy63 => (go_simp; (first | with_reducible rfl | (constructor <;> with_reducible rfl)))); (case hsp63 => (have kb3q := hSq.at kb3 (by intro hT; first | exact hT | exact absurd hT (by assumption) | omega | (simp only at hT; omega)); have kp6q := hSq.at kp6 (by intro hT; first | exact hT | exact absurd hT (by assumption) | omega | (simp only at hT; omega)); have hc := pushH_c kq ltq y.rk (idn i) HC.out.2.1 HC.out.2.2; rw [HC.out.1] at hc; exact hc.mono (fun e w' hh => by obtain ⟨he, T', hA', hm', hg', hl'⟩ := hh; exact ⟨_, he, hm', rfl, (HAt.good h _).gr _ _ _ (fun j hj => by rcases hg' j hj with h9 | h9; exact .inl h9; exact .inr ⟨h9, hl' j hj⟩) hA'⟩))); rintro v63 ⟨wI, TI, hI⟩; replace gK := (fun v => (Good.pure (v = .int .i64 0)).and (HAt.good h (C1 ++ [⟨y.rk, idn i⟩]))) v63; obtain ⟨rfl, _⟩ := hI.k; (try clear hI TI wI); (try simp only [Act.put, zF, zG, zH]))
      refine TG.nil (fun w4 ⟨TR, hr⟩ => ?_)
      have kb3 := hr.mod.at kb3 (by intro hT; first | exact hT | exact absurd hT (by assumption) | omega | (simp only at hT; omega))
      have kp6 := hr.mod.at kp6 (by intro hT; first | exact hT | exact absurd hT (by assumption) | omega | (simp only at hT; omega))
      clear gK
      have HB4 := M3.out.bf.stepH (fun j hj => (M3.out.lt j (by rcases hj with hj | hj | hj; exact .inl hj; exact .inr (.inr (.inl hj)); exact .inr (.inr (.inr hj)))).2) hr.k.2 hr.mod (fun j hj => by
        by_cases h9 : j < w3.heap.size
        · exact .inl (hr.old j h9 hj)
        · exact .inr (by omega))
      have HLT : Hid (∀ j, Ts j ∨ TR j ∨ Tr j ∨ j = b → (O j ∨ w0.heap.size ≤ j) ∧ j < w4.heap.size) := Lib.hid (fun j hj => by
        have hsz := hr.mod.size
        have h0 := M3.out.m.size
        rcases hj with hj | hj | hj
        · have := M3.out.lt j (.inl hj); exact ⟨this.1, by omega⟩
        · refine ⟨?_, hr.lt j hj⟩
          by_cases h9 : j < w3.heap.size
          · exact (M3.out.lt j (.inr (.inl (hr.old j h9 hj)))).1
          · omega
        · have := M3.out.lt j (.inr (.inr hj)); exact ⟨this.1, by omega⟩)
      have HMM : Hid (Mod O w0 w4) := Lib.hid (M3.out.m.then hr.mod (fun j hj e => (M3.out.lt j (.inr (.inl e))).1.resolve_right (by omega)))
      have hpm : List.Perm (C1 ++ [(⟨y.rk, idn i⟩ : Nd)]) (wtg 0 ((conS R).set i (some ({ y with pl := p } : ItR).con))) := push_perm (x := ({ y with pl := p } : ItR).con) M3.out.perm (by rw [conS_len]; exact HLEN.out.1) (by rw [HP.out]; rfl)
      clear hr
      have kbF := HB4.kb
      have HPM := Lib.hid hpm
      have HBF := Lib.hid HB4
      clear HB4
      go_upto_region 6 with fail
      have LkbF := lt_size kbF
      have Lkp6 := lt_size kp6
      refine wp_pass (C := fun _ _ _ => False) (κ := fun i => [0, 0, 0, 0, 1, 0, 1, 5].getD i 0) [0, 1, 2, 3, 4, 5, 6, 7] (by kernel_rfl) (by kernel_rfl) (fun _ _ d _ _ h => by cases d <;> first | exact h | exact absurd h (hP _ _ _)) ?_
      (refine TD.val0 (v := ?v64) (by simp only [zA, zB, zC]; rfl) rfl ?hw64 (fun w1 => ?hy64) ?hn64; (case hw64 => rfl); (case hy64 => (go_simp; (try with_reducible rfl))); (try simp only [Act.put, zF, zG, zH]))
      (refine TD.val0 (v := ?v65) (by simp only [zA, zB, zC]; rfl) rfl ?hw65 (fun w1 => ?hy65) ?hn65; (case hw65 => rfl); (case hy65 => (go_simp; (try with_reducible rfl))); (try simp only [Act.put, zF, zG, zH]))
      (refine TD.val0 (v := ?v66) (by simp only [zA, zB, zC]; rfl) rfl ?hw66 (fun w1 => ?hy66) ?hn66; (case hw66 => rfl); (case hy66 => (go_simp; (try with_reducible rfl))); (try simp only [Act.put, zF, zG, zH]))
      (refine TD.val0 (v := ?v67) (by simp only [zA, zB, zC]; rfl) rfl ?hw67 (fun w1 => ?hy67) ?hn67; (case hw67 => rfl); (case hy67 => (go_simp; (try with_reducible rfl))); (try simp only [Act.put, zF, zG, zH]))
      (refine TD.load (v := ?v68) (p := ?p68) (Mod.refl _ _) (by simp only [zA, zB, zC]; rfl) rfl ?hw68 rfl ?hx68 (fun wq hSq => ?hy68) ?hn68; (case hw68 => rfl); (case hx68 => (simp only [Act.eval, zD, zA, zB, zC, zE]; (try rfl))); (case hy68 => (have kbFq := hSq.at kbF (fun h => h); have kp6q := hSq.at kp6 (fun h => h); go_simp; (try with_reducible rfl))); (try simp only [Act.put, zF, zG, zH]))
      (refine TD.val0 (v := ?v69) (by simp only [zA, zB, zC]; rfl) rfl ?hw69 (fun w1 => ?hy69) ?hn69; (case hw69 => rfl); (case hy69 => (go_simp; (try with_reducible rfl))); (try simp only [Act.put, zF, zG, zH]))
      (refine TD.load (v := ?v70) (p := ?p70) (Mod.refl _ _) (by simp only [zA, zB, zC]; rfl) rfl ?hw70 rfl ?hx70 (fun wq hSq => ?hy70) ?hn70; (case hw70 => rfl); (case hx70 => (simp only [Act.eval, zD, zA, zB, zC, zE]; (try rfl))); (case hy70 => (have kbFq := hSq.at kbF (fun h => h); have kp6q := hSq.at kp6 (fun h => h); go_simp; (try with_reducible rfl))); (try simp only [Act.put, zF, zG, zH]))
      refine TD.eff (by simp only [zA, zB, zC]; rfl) rfl (fun w7 hr => ?_)
      have kbF := hr.mod.at kbF (fun h => h)
      have kp6 := hr.mod.at kp6 (fun h => h)
      have m7 := hr.mod
      clear hr
      have hcall := fin_set (w0 := w0) (HBF.out.mod0 m7) (fun j hj => ⟨(HLT.out j hj).1, Nat.lt_of_lt_of_le (HLT.out j hj).2 m7.size⟩) (HMM.out.then0 m7) HH.out.2.2.2.2.2 { y with pl := p } rfl HPM.out
      clear m7
      (refine eff_callP (by simp only [zA, zB, zC]; rfl) ?hw72 ?hy72 hcall (fun wn hP => ?hn72); (case hw72 => rfl); (case hy72 => (go_simp; (try (first | with_reducible rfl | (constructor <;> with_reducible rfl))))); (try simp only [Act.put, zF, zG, zH]))
      refine TE.nil ?_
      have HX := Lib.hid hP
      clear hP hcall
      go_wp2_with fail
      go_end0
      exact ⟨rfl, HX.out⟩
    · have hpz := u8_nz hp
      have hpm : List.Perm C1 (wtg 0 ((conS R).set i (some ({ y with pl := p } : ItR).con))) := keep_perm M3.out.perm (by rw [conS_len]; exact HLEN.out.1) (nodeOf_nz (fun e => hp (UInt8.toNat_inj.1 e)))
      have HB4 := M3.out.bf
      have HLT := Lib.hid M3.out.lt
      have HMM := Lib.hid M3.out.m
      clear hp
      have kbF := HB4.kb
      have HPM := Lib.hid hpm
      have HBF := Lib.hid HB4
      clear HB4
      go_upto_region 6 with fail
      have LkbF := lt_size kbF
      have Lkp6 := lt_size kp6
      refine wp_pass (C := fun _ _ _ => False) (κ := fun i => [0, 0, 0, 0, 1, 0, 1, 5].getD i 0) [0, 1, 2, 3, 4, 5, 6, 7] (by kernel_rfl) (by kernel_rfl) (fun _ _ d _ _ h => by cases d <;> first | exact h | exact absurd h (hP _ _ _)) ?_
      (refine TD.val0 (v := ?v73) (by simp only [zA, zB, zC]; rfl) rfl ?hw73 (fun w1 => ?hy73) ?hn73; (case hw73 => rfl); (case hy73 => (go_simp; (try with_reducible rfl))); (try simp only [Act.put, zF, zG, zH]))
      (refine TD.val0 (v := ?v74) (by simp only [zA, zB, zC]; rfl) rfl ?hw74 (fun w1 => ?hy74) ?hn74; (case hw74 => rfl); (case hy74 => (go_simp; (try with_reducible rfl))); (try simp only [Act.put, zF, zG, zH]))
      (refine TD.val0 (v := ?v75) (by simp only [zA, zB, zC]; rfl) rfl ?hw75 (fun w1 => ?hy75) ?hn75; (case hw75 => rfl); (case hy75 => (go_simp; (try with_reducible rfl))); (try simp only [Act.put, zF, zG, zH]))
      (refine TD.val0 (v := ?v76) (by simp only [zA, zB, zC]; rfl) rfl ?hw76 (fun w1 => ?hy76) ?hn76; (case hw76 => rfl); (case hy76 => (go_simp; (try with_reducible rfl))); (try simp only [Act.put, zF, zG, zH]))
      (refine TD.load (v := ?v77) (p := ?p77) (Mod.refl _ _) (by simp only [zA, zB, zC]; rfl) rfl ?hw77 rfl ?hx77 (fun wq hSq => ?hy77) ?hn77; (case hw77 => rfl); (case hx77 => (simp only [Act.eval, zD, zA, zB, zC, zE]; (try rfl))); (case hy77 => (have kbFq := hSq.at kbF (fun h => h); have kp6q := hSq.at kp6 (fun h => h); go_simp; (try with_reducible rfl))); (try simp only [Act.put, zF, zG, zH]))
      (refine TD.val0 (v := ?v78) (by simp only [zA, zB, zC]; rfl) rfl ?hw78 (fun w1 => ?hy78) ?hn78; (case hw78 => rfl); (case hy78 => (go_simp; (try with_reducible rfl))); (try simp only [Act.put, zF, zG, zH]))
      (refine TD.load (v := ?v79) (p := ?p79) (Mod.refl _ _) (by simp only [zA, zB, zC]; rfl) rfl ?hw79 rfl ?hx79 (fun wq hSq => ?hy79) ?hn79; (case hw79 => rfl); (case hx79 => (simp only [Act.eval, zD, zA, zB, zC, zE]; (try rfl))); (case hy79 => (have kbFq := hSq.at kbF (fun h => h); have kp6q := hSq.at kp6 (fun h => h); go_simp; (try with_reducible rfl))); (try simp only [Act.put, zF, zG, zH]))
      refine TD.eff (by simp only [zA, zB, zC]; rfl) rfl (fun w7 hr => ?_)
      have kbF := hr.mod.at kbF (fun h => h)
      have kp6 := hr.mod.at kp6 (fun h => h)
      have m7 := hr.mod
      clear hr
      have hcall := fin_set (w0 := w0) (HBF.out.mod0 m7) (fun j hj => ⟨(HLT.out j hj).1, Nat.lt_of_lt_of_le (HLT.out j hj).2 m7.size⟩) (HMM.out.then0 m7) HH.out.2.2.2.2.2 { y with pl := p } rfl HPM.out
      clear m7
      (refine eff_callP (by simp only [zA, zB, zC]; rfl) ?hw81 ?hy81 hcall (fun wn hP => ?hn81); (case hw81 => rfl); (case hy81 => (go_simp; (try (first | with_reducible rfl | (constructor <;> with_reducible rfl))))); (try simp only [Act.put, zF, zG, zH]))
      refine TE.nil ?_
      have HX := Lib.hid hP
      clear hP hcall
      go_wp2_with fail
      go_end0
      exact ⟨rfl, HX.out⟩
end Go.Proofs.YtdeghpmlhcaedaaDoor
/- Buffers: held, Len, Waiting, Pop, Back, Park, Done, Send. -/
namespace Go.Proofs.YtdeghpmlhcaedaaDoor
open Go.RowKit
open Go.ChangeMaps (setBlock)
set_option linter.unusedSimpArgs false
set_option linter.unusedVariables false
attribute [local go_sem ↓] wlItem ldItem stItem wlRk ldRk stRk eqRk eqRk2
attribute [local go_sem] cell_blk frozen_blk one_int one_bool one_ptr one_slice one_map Value.cells rkc_size rkc_all1 itr_size itr_all itr_one itr_one' itr_n itr_prio itr_pl itr_sent itr_n' itr_prio' itr_pl' itr_sent' itr_r zItem_size zItem_all zItem_one
/-- An id that none has. -/
def AwayS (S : List (Option It)) (n : Int) : Prop := n < 0 ∨ (S.length : Int) ≤ n ∨ S[n.toNat]? = some none
theorem AwayS.con {R : List (Option ItR)} {n : Int} (h : AwayS (conS R) n) : Away R n := by
  rcases h with h | h | h
  · exact .inl h
  · exact .inr (.inl (by rw [conS_len] at h; exact h))
  · exact .inr (.inr (con_none h))
theorem away_or (S : List (Option It)) (n : Int) : AwayS S n ∨ ∃ (i : Nat) (x : It), n = i ∧ S[i]? = some (some x) := by
  by_cases h1 : n < 0
  · exact .inl (.inl h1)
  · by_cases h2 : (S.length : Int) ≤ n
    · exact .inl (.inr (.inl h2))
    · cases h : S[n.toNat]? with
      | none => rw [List.getElem?_eq_none_iff] at h; omega
      | some o =>
        cases o with
        | none => exact .inl (.inr (.inr h))
        | some x => exact .inr ⟨n.toNat, x, by omega, h⟩
section
variable {w0 w w' ws : World} {O : Nat → Prop} {b s h : Nat} {R R' : List (Option ItR)} {C C' : List Nd} {Ts Th Tr : Nat → Prop} {S : List (Option It)}
set_option maxRecDepth 20000 in
set_option maxHeartbeats 1600000 in
theorem heldY_c (HB : Bf w b s h R C Ts Th Tr) {i : Nat} {y : ItR} (hy : R[i]? = some (some y)) : Calls Tryd.prog 36 #[ptrV b, .int .i64 (i : Int)] w fun e w' => e = .returned (.tuple #[.agg (itr y), .int .i64 0]) ∧ Mod (fun _ => False) w w' := by
  have kb := HB.kb
  have HH := Lib.hid (And.intro HB hy)
  clear HB hy
  go_enter Tryd.func36, Tryd.ntmps36
  go_upto_region 0 with fail
  have Lkb := lt_size kb
  refine wp_pass0 (C := fun _ _ _ => False) (κ := fun i => [3, 0].getD i 0) [0, 1] (by kernel_rfl) (by kernel_rfl) (fun _ _ d _ _ h => by cases d <;> first | exact h | exact absurd h (hP _ _ _)) ?_
  (refine TD.allocB (by simp only [zA, zB, zC]; rfl) rfl ?hw1 rfl rfl alItem (fun p4 hp4 => ?hn1); (case hw1 => rfl); (try simp only [Act.put, zF, zG, zH]))
  (refine TD.val0 (v := ?v2) (by simp only [zA, zB, zC]; rfl) rfl ?hw2 (fun w1 => ?hy2) ?hn2; (case hw2 => rfl); (case hy2 => (go_simp; (try with_reducible rfl))); (try simp only [Act.put, zF, zG, zH]))
  refine TD.nil (fun w1 hr => ?_)
  have kb := hr.mod.at kb (fun h => h)
  have kp4 := hr.box p4 _ (by first | exact Bx.set_same _ _ _ | (simp only [Bx.set_same]; rfl)); dsimp only [Value.cells] at kp4; obtain ⟨gp4, kp4⟩ := kp4
  have m1 := hr.mod
  clear hr
  go_wp2_with fail
  go_at_call 26
  refine (bthere_c kb).mono ?_
  rintro e w2 ⟨rfl, rfl⟩
  go_upto_region 3 with fail
  have Lkb := lt_size kb
  have Lkp4 := lt_size kp4
  refine wp_pass0 (C := fun _ _ v => v = .tuple #[.agg (itr y), .int .i64 0]) (κ := fun i => [0, 0, 0, 0, 1, 0, 2, 0, 0, 5, 0].getD i 0) [0, 1, 2, 3, 4, 5, 6, 7, 8, 9, 10] (by kernel_rfl) (by kernel_rfl) (fun _ _ d _ _ h => by cases d <;> first | exact h | exact absurd h (hP _ _ _)) ?_
  (refine TD.val0 (v := ?v3) (by simp only [zA, zB, zC]; rfl) rfl ?hw3 (fun w1 => ?hy3) ?hn3; (case hw3 => rfl); (case hy3 => (go_simp; (try with_reducible rfl))); (try simp only [Act.put, zF, zG, zH]))
  (refine TD.val0 (v := ?v4) (by simp only [zA, zB, zC]; rfl) rfl ?hw4 (fun w1 => ?hy4) ?hn4; (case hw4 => rfl); (case hy4 => (go_simp; (try with_reducible rfl))); (try simp only [Act.put, zF, zG, zH]))
  (refine TD.val0 (v := ?v5) (by simp only [zA, zB, zC]; rfl) rfl ?hw5 (fun w1 => ?hy5) ?hn5; (case hw5 => rfl); (case hy5 => (go_simp; (try with_reducible rfl))); (try simp only [Act.put, zF, zG, zH]))
  (refine TD.val0 (v := ?v6) (by simp only [zA, zB, zC]; rfl) rfl ?hw6 (fun w1 => ?hy6) ?hn6; (case hw6 => rfl); (case hy6 => (go_simp; (try with_reducible rfl))); (try simp only [Act.put, zF, zG, zH]))
  (refine TD.load (v := ?v7) (p := ?p7) (Mod.refl _ _) (by simp only [zA, zB, zC]; rfl) rfl ?hw7 rfl ?hx7 (fun wq hSq => ?hy7) ?hn7; (case hw7 => rfl); (case hx7 => (simp only [Act.eval, zD, zA, zB, zC, zE]; (try rfl))); (case hy7 => (have kbq := hSq.at kb (fun h => h); have kp4q := hSq.at kp4 (fun h => h); go_simp; (try with_reducible rfl))); (try simp only [Act.put, zF, zG, zH]))
  (refine TD.val0 (v := ?v8) (by simp only [zA, zB, zC]; rfl) rfl ?hw8 (fun w1 => ?hy8) ?hn8; (case hw8 => rfl); (case hy8 => (go_simp; (try with_reducible rfl))); (try simp only [Act.put, zF, zG, zH]))
  (refine TD.call (f := ?f9) (args := ?r9) (Mod.refl _ _) (by simp only [zA, zB, zC]; rfl) rfl ?hw9 (fun w1 => ?hy9) ?hsp9 ?hn9; (case hw9 => rfl); (case hy9 => (go_simp; (first | with_reducible rfl | (constructor <;> with_reducible rfl)))); (case hsp9 => (intro wq hSq; have kbq := hSq.at kb (fun h => h); have kp4q := hSq.at kp4 (fun h => h); exact (sget_c (HH.out.1.mod0 (m1.then0 hSq)).sat HH.out.2).mono (fun e w' h => ⟨_, h.1, rfl, h.2⟩))); rintro _ rfl; (try simp only [Act.put, zF, zG, zH]))
  (refine TD.val0 (v := ?v10) (by simp only [zA, zB, zC]; rfl) rfl ?hw10 (fun w1 => ?hy10) ?hn10; (case hw10 => rfl); (case hy10 => (go_simp; (try with_reducible rfl))); (try simp only [Act.put, zF, zG, zH]))
  (refine TD.val0 (v := ?v11) (by simp only [zA, zB, zC]; rfl) rfl ?hw11 (fun w1 => ?hy11) ?hn11; (case hw11 => rfl); (case hy11 => (go_simp; (try with_reducible rfl))); (try simp only [Act.put, zF, zG, zH]))
  refine TD.eff (by simp only [zA, zB, zC]; rfl) rfl (fun w3 hr => ?_)
  have kb := hr.mod.at kb (fun h => h)
  have kp4 := hr.mod.at kp4 (fun h => h)
  have m3 := m1.then0 hr.mod
  clear hr
  (refine eff_store (X := ?X13) (Y := ?Y13) (w' := ?w13) (by simp only [zA, zB, zC]; rfl) ?hw13 rfl ?hx13 ?hz13 ?hy13 ?hn13; (case hw13 => rfl); (case hx13 => (simp only [Act.eval, zD, zA, zB, zC, zE]; (try rfl))); (case hz13 => (simp only [Act.eval, zD, zA, zB, zC, zE]; (try rfl))); (case hy13 => (go_simp; (try with_reducible rfl))))
  (first | refine TE.mid_set kp4 (fun wn kp4 mS => ?_) | refine TE.mid_setCell kp4 (fun wn kp4 mS => ?_))
  (try simp only [Array.setIfInBounds, zF, zG, zH] at kp4)
  have m4 := m3.thenB mS (.inl gp4)
  clear mS
  (refine TE.val0 (v := ?v14) (by simp only [zA, zB, zC]; rfl) ?hw14 (fun w1 => ?hy14) ?hn14; (case hw14 => rfl); (case hy14 => (go_simp; (try with_reducible rfl))); (try simp only [Act.put, zF, zG, zH]))
  refine TE.nil ?_
  go_wp2_with fail
  exact bodyPost_ret (results_cell2 (x := .agg (itr y)) rfl rfl (by rw [ldItem]; simp [kp4, itr_all, itr_size])) rfl ⟨rfl, m4⟩
set_option maxRecDepth 20000 in
set_option maxHeartbeats 1600000 in
theorem heldN_c (HB : Bf w b s h R C Ts Th Tr) {n : Int} (hn : Away R n) : Calls Tryd.prog 36 #[ptrV b, .int .i64 n] w fun e w' => e = .returned (.tuple #[.agg zItem, .int .i64 11]) ∧ Mod (fun _ => False) w w' := by
  have kb := HB.kb
  have HH := Lib.hid (And.intro HB hn)
  clear HB hn
  go_enter Tryd.func36, Tryd.ntmps36
  go_upto_region 0 with fail
  have Lkb := lt_size kb
  refine wp_pass0 (C := fun _ _ _ => False) (κ := fun i => [3, 0].getD i 0) [0, 1] (by kernel_rfl) (by kernel_rfl) (fun _ _ d _ _ h => by cases d <;> first | exact h | exact absurd h (hP _ _ _)) ?_
  (refine TD.allocB (by simp only [zA, zB, zC]; rfl) rfl ?hw15 rfl rfl alItem (fun p4 hp4 => ?hn15); (case hw15 => rfl); (try simp only [Act.put, zF, zG, zH]))
  (refine TD.val0 (v := ?v16) (by simp only [zA, zB, zC]; rfl) rfl ?hw16 (fun w1 => ?hy16) ?hn16; (case hw16 => rfl); (case hy16 => (go_simp; (try with_reducible rfl))); (try simp only [Act.put, zF, zG, zH]))
  refine TD.nil (fun w1 hr => ?_)
  have kb := hr.mod.at kb (fun h => h)
  have kp4 := hr.box p4 _ (by first | exact Bx.set_same _ _ _ | (simp only [Bx.set_same]; rfl)); dsimp only [Value.cells] at kp4; obtain ⟨gp4, kp4⟩ := kp4
  have m1 := hr.mod
  clear hr
  go_wp2_with fail
  go_at_call 26
  refine (bthere_c kb).mono ?_
  rintro e w2 ⟨rfl, rfl⟩
  go_upto_region 3 with fail
  have Lkb := lt_size kb
  have Lkp4 := lt_size kp4
  refine wp_pass0 (C := fun _ _ v => v = .tuple #[.agg zItem, .int .i64 11]) (κ := fun i => [0, 0, 0, 0, 1, 0, 2, 0, 0, 5, 0].getD i 0) [0, 1, 2, 3, 4, 5, 6, 7, 8, 9, 10] (by kernel_rfl) (by kernel_rfl) (fun _ _ d _ _ h => by cases d <;> first | exact h | exact absurd h (hP _ _ _)) ?_
  (refine TD.val0 (v := ?v17) (by simp only [zA, zB, zC]; rfl) rfl ?hw17 (fun w1 => ?hy17) ?hn17; (case hw17 => rfl); (case hy17 => (go_simp; (try with_reducible rfl))); (try simp only [Act.put, zF, zG, zH]))
  (refine TD.val0 (v := ?v18) (by simp only [zA, zB, zC]; rfl) rfl ?hw18 (fun w1 => ?hy18) ?hn18; (case hw18 => rfl); (case hy18 => (go_simp; (try with_reducible rfl))); (try simp only [Act.put, zF, zG, zH]))
  (refine TD.val0 (v := ?v19) (by simp only [zA, zB, zC]; rfl) rfl ?hw19 (fun w1 => ?hy19) ?hn19; (case hw19 => rfl); (case hy19 => (go_simp; (try with_reducible rfl))); (try simp only [Act.put, zF, zG, zH]))
  (refine TD.val0 (v := ?v20) (by simp only [zA, zB, zC]; rfl) rfl ?hw20 (fun w1 => ?hy20) ?hn20; (case hw20 => rfl); (case hy20 => (go_simp; (try with_reducible rfl))); (try simp only [Act.put, zF, zG, zH]))
  (refine TD.load (v := ?v21) (p := ?p21) (Mod.refl _ _) (by simp only [zA, zB, zC]; rfl) rfl ?hw21 rfl ?hx21 (fun wq hSq => ?hy21) ?hn21; (case hw21 => rfl); (case hx21 => (simp only [Act.eval, zD, zA, zB, zC, zE]; (try rfl))); (case hy21 => (have kbq := hSq.at kb (fun h => h); have kp4q := hSq.at kp4 (fun h => h); go_simp; (try with_reducible rfl))); (try simp only [Act.put, zF, zG, zH]))
  (refine TD.val0 (v := ?v22) (by simp only [zA, zB, zC]; rfl) rfl ?hw22 (fun w1 => ?hy22) ?hn22; (case hw22 => rfl); (case hy22 => (go_simp; (try with_reducible rfl))); (try simp only [Act.put, zF, zG, zH]))
  (refine TD.call (f := ?f23) (args := ?r23) (Mod.refl _ _) (by simp only [zA, zB, zC]; rfl) rfl ?hw23 (fun w1 => ?hy23) ?hsp23 ?hn23; (case hw23 => rfl); (case hy23 => (go_simp; (first | with_reducible rfl | (constructor <;> with_reducible rfl)))); (case hsp23 => (intro wq hSq; have kbq := hSq.at kb (fun h => h); have kp4q := hSq.at kp4 (fun h => h); exact (sgetN_c (HH.out.1.mod0 (m1.then0 hSq)).sat HH.out.2).mono (fun e w' h => ⟨_, h.1, rfl, h.2⟩))); rintro _ rfl; (try simp only [Act.put, zF, zG, zH]))
  (refine TD.val0 (v := ?v24) (by simp only [zA, zB, zC]; rfl) rfl ?hw24 (fun w1 => ?hy24) ?hn24; (case hw24 => rfl); (case hy24 => (go_simp; (try with_reducible rfl))); (try simp only [Act.put, zF, zG, zH]))
  (refine TD.val0 (v := ?v25) (by simp only [zA, zB, zC]; rfl) rfl ?hw25 (fun w1 => ?hy25) ?hn25; (case hw25 => rfl); (case hy25 => (go_simp; (try with_reducible rfl))); (try simp only [Act.put, zF, zG, zH]))
  refine TD.eff (by simp only [zA, zB, zC]; rfl) rfl (fun w3 hr => ?_)
  have kb := hr.mod.at kb (fun h => h)
  have kp4 := hr.mod.at kp4 (fun h => h)
  have m3 := m1.then0 hr.mod
  clear hr
  (refine eff_store (X := ?X27) (Y := ?Y27) (w' := ?w27) (by simp only [zA, zB, zC]; rfl) ?hw27 rfl ?hx27 ?hz27 ?hy27 ?hn27; (case hw27 => rfl); (case hx27 => (simp only [Act.eval, zD, zA, zB, zC, zE]; (try rfl))); (case hz27 => (simp only [Act.eval, zD, zA, zB, zC, zE]; (try rfl))); (case hy27 => (go_simp; (try with_reducible rfl))))
  (first | refine TE.mid_set kp4 (fun wn kp4 mS => ?_) | refine TE.mid_setCell kp4 (fun wn kp4 mS => ?_))
  (try simp only [Array.setIfInBounds, zF, zG, zH] at kp4)
  have m4 := m3.thenB mS (.inl gp4)
  clear mS
  (refine TE.val0 (v := ?v28) (by simp only [zA, zB, zC]; rfl) ?hw28 (fun w1 => ?hy28) ?hn28; (case hw28 => rfl); (case hy28 => (go_simp; (try with_reducible rfl))); (try simp only [Act.put, zF, zG, zH]))
  refine TE.nil ?_
  go_wp2_with fail
  exact bodyPost_ret (results_cell2 (x := .agg zItem) rfl rfl (by rw [ldItem]; simp [kp4, zItem, itr_all, itr_size])) rfl ⟨rfl, m4⟩
theorem heldS_c (H : BH w0 O b S w) {i : Nat} {x : It} (hx : S[i]? = some (some x)) : Calls Tryd.prog 36 #[ptrV b, .int .i64 (i : Int)] w fun e w' => ∃ y : ItR, y.con = x ∧ RdOk w y.r ∧ RdSm y.r.con ∧ e = .returned (.tuple #[.agg (itr y), .int .i64 0]) ∧ Mod (fun _ => False) w w' := by
  obtain ⟨s, h, R, C, Ts, Th, Tr, HB, rfl, hperm, hT, m⟩ := H
  obtain ⟨y, hy, rfl⟩ := con_at hx
  exact (heldY_c HB hy).mono fun e w' h => ⟨y, rfl, (HB.rd i y hy).1, (HB.rd i y hy).2.2, h.1, h.2⟩
theorem heldA_c (H : BH w0 O b S w) {n : Int} (hn : AwayS S n) : Calls Tryd.prog 36 #[ptrV b, .int .i64 n] w fun e w' => e = .returned (.tuple #[.agg zItem, .int .i64 11]) ∧ Mod (fun _ => False) w w' := by
  obtain ⟨s, h, R, C, Ts, Th, Tr, HB, rfl, hperm, hT, m⟩ := H
  exact heldN_c HB hn.con
theorem slenS_c (hs : SAt s R Ts w) : Calls Tryd.prog 34 #[ptrV s] w fun e w' => e = .returned (.int .i64 (R.countP Option.isSome : Nat)) ∧ Mod (fun _ => False) w w' := by
  obtain ⟨g, u, cur, us, H, _⟩ := hs
  exact (slen_c H).mono fun e w' h => ⟨h.1, by rw [h.2]; exact Mod.refl _ _⟩
set_option maxRecDepth 20000 in
set_option maxHeartbeats 1600000 in
theorem blen_c (H : BH w0 O b S w) : Calls Tryd.prog 11 #[ptrV b] w fun e w' => e = .returned (.int .i64 (S.countP Option.isSome)) ∧ Mod (fun _ => False) w w' := by
  obtain ⟨s, h, R, C, Ts, Th, Tr, HB, rfl, hperm, hT, m⟩ := H
  have kb := HB.kb
  have HH := Lib.hid HB
  have hcnt : (conS R).countP Option.isSome = R.countP Option.isSome := by
    unfold conS
    rw [List.countP_map]
    exact List.countP_congr (fun o _ => by cases o <;> simp)
  rw [hcnt]
  generalize hN : R.countP Option.isSome = N
  have HN := Lib.hid hN
  clear HB hperm hT m hcnt hN
  go_enter Tryd.func11, Tryd.ntmps11
  go_wp2_with fail
  go_at_call 26
  refine (bthere_c kb).mono ?_
  rintro e w2 ⟨rfl, rfl⟩
  go_upto_region 3 with fail
  have Lkb := lt_size kb
  refine wp_pass0 (C := fun _ _ v => v = .int .i64 N) (κ := fun i => [0, 0, 0, 0, 1, 2, 0].getD i 0) [0, 1, 2, 3, 4, 5, 6] (by kernel_rfl) (by kernel_rfl) (fun _ _ d _ _ h => by cases d <;> first | exact h | exact absurd h (hP _ _ _)) ?_
  (refine TD.val0 (v := ?v29) (by simp only [zA, zB, zC]; rfl) rfl ?hw29 (fun w1 => ?hy29) ?hn29; (case hw29 => rfl); (case hy29 => (go_simp; (try with_reducible rfl))); (try simp only [Act.put, zF, zG, zH]))
  (refine TD.val0 (v := ?v30) (by simp only [zA, zB, zC]; rfl) rfl ?hw30 (fun w1 => ?hy30) ?hn30; (case hw30 => rfl); (case hy30 => (go_simp; (try with_reducible rfl))); (try simp only [Act.put, zF, zG, zH]))
  (refine TD.val0 (v := ?v31) (by simp only [zA, zB, zC]; rfl) rfl ?hw31 (fun w1 => ?hy31) ?hn31; (case hw31 => rfl); (case hy31 => (go_simp; (try with_reducible rfl))); (try simp only [Act.put, zF, zG, zH]))
  (refine TD.val0 (v := ?v32) (by simp only [zA, zB, zC]; rfl) rfl ?hw32 (fun w1 => ?hy32) ?hn32; (case hw32 => rfl); (case hy32 => (go_simp; (try with_reducible rfl))); (try simp only [Act.put, zF, zG, zH]))
  (refine TD.load (v := ?v33) (p := ?p33) (Mod.refl _ _) (by simp only [zA, zB, zC]; rfl) rfl ?hw33 rfl ?hx33 (fun wq hSq => ?hy33) ?hn33; (case hw33 => rfl); (case hx33 => (simp only [Act.eval, zD, zA, zB, zC, zE]; (try rfl))); (case hy33 => (have kbq := hSq.at kb (fun h => h); go_simp; (try with_reducible rfl))); (try simp only [Act.put, zF, zG, zH]))
  (refine TD.call (f := ?f34) (args := ?r34) (Mod.refl _ _) (by simp only [zA, zB, zC]; rfl) rfl ?hw34 (fun w1 => ?hy34) ?hsp34 ?hn34; (case hw34 => rfl); (case hy34 => (go_simp; (first | with_reducible rfl | (constructor <;> with_reducible rfl)))); (case hsp34 => (intro wq hSq; have kbq := hSq.at kb (fun h => h); exact (slenS_c (HH.out.mod0 hSq).sat).mono (fun e w' h => ⟨_, h.1, by rw [HN.out], h.2⟩))); rintro _ rfl; (try simp only [Act.put, zF, zG, zH]))
  (refine TD.val0 (v := ?v35) (by simp only [zA, zB, zC]; rfl) rfl ?hw35 (fun w1 => ?hy35) ?hn35; (case hw35 => rfl); (case hy35 => (go_simp; (try with_reducible rfl))); (try simp only [Act.put, zF, zG, zH]))
  refine TD.nil (fun w3 hr => ?_)
  have kb := hr.mod.at kb (fun h => h)
  have m3 := hr.mod
  clear hr
  go_wp2_with fail
  go_ret
  exact ⟨rfl, m3⟩
set_option maxRecDepth 20000 in
set_option maxHeartbeats 1600000 in
theorem bwait_c (H : BH w0 O b S w) {D : List Nd} (hD : D.Perm (wtg 0 S)) (hS : Srt D) : Calls Tryd.prog 12 #[ptrV b] w fun e w' => ∃ v, e = .returned v ∧ SlOwn ic 1 3 w' w.heap.size v (D.map Nd.id) ∧ Mod (fun _ => False) w w' := by
  have hsl := H.len
  obtain ⟨s, h, R, C, Ts, Th, Tr, HB, rfl, hperm, hT, m⟩ := H
  have kb := HB.kb
  have hC : C.length ≤ 700000 := by
    have h1 := hperm.length_eq
    have h2 := wtg_len (S := conS R) (k := 0)
    omega
  have HH := Lib.hid (And.intro HB (And.intro (hD.trans hperm.symm) (And.intro hS hC)))
  clear HB hperm hT m hC hS hD hsl
  go_enter Tryd.func12, Tryd.ntmps12
  go_wp2_with fail
  go_at_call 26
  refine (bthere_c kb).mono ?_
  rintro e w2 ⟨rfl, rfl⟩
  go_wp2_with fail
  go_at_call 35
  refine (listS_c HH.out.1.hat HH.out.2.1 HH.out.2.2.1 HH.out.2.2.2).mono ?_
  rintro e w3 ⟨v, rfl, ho, m3⟩
  have HO := Lib.hid (And.intro ho m3)
  clear ho m3
  go_wp2_with fail
  go_ret
  exact ⟨_, rfl, HO.out.1, HO.out.2⟩
end
end Go.Proofs.YtdeghpmlhcaedaaDoor
/- Buffers: Pop, Back, Park, Done, Send. -/
namespace Go.Proofs.YtdeghpmlhcaedaaDoor
open Go.RowKit
open Go.ChangeMaps (setBlock)
set_option linter.unusedSimpArgs false
set_option linter.unusedVariables false
attribute [local go_sem ↓] wlItem ldItem stItem wlRk ldRk stRk eqRk eqRk2
attribute [local go_sem] cell_blk frozen_blk one_int one_bool one_ptr one_slice one_map Value.cells rkc_size rkc_all1 itr_size itr_all itr_one itr_one' itr_n itr_prio itr_pl itr_sent itr_n' itr_prio' itr_pl' itr_sent' itr_r zItem_size zItem_all zItem_one
theorem u8_is {p : UInt8} (k : UInt8) {K : Int} (hk : (k.toNat : Int) = K) (h : p = k) : ((p.toNat : Int) == K) = true := by subst h; subst hk; exact beq_self_eq_true _
theorem u8_not {p : UInt8} (k : UInt8) {K : Int} (hk : (k.toNat : Int) = K) (h : p ≠ k) : ((p.toNat : Int) == K) = false := by
  rw [beq_eq_false_iff_ne]
  intro e
  subst hk
  exact h (UInt8.toNat_inj.1 (by exact_mod_cast e))
section
variable {w0 w w' ws : World} {O : Nat → Prop} {b : Nat} {S : List (Option It)}
theorem heldP_c (H : BH w0 O b S w) {i : Nat} {x : It} (hx : S[i]? = some (some x)) : ∃ y : ItR, y.con = x ∧ ∀ wq, Mod (fun _ => False) w wq → Calls Tryd.prog 36 #[ptrV b, .int .i64 (i : Int)] wq fun e w' => e = .returned (.tuple #[.agg (itr y), .int .i64 0]) ∧ Mod (fun _ => False) wq w' := by
  obtain ⟨s, h, R, C, Ts, Th, Tr, HB, rfl, hperm, hT, m⟩ := H
  obtain ⟨y, hy, rfl⟩ := con_at hx
  exact ⟨y, rfl, fun wq hq => heldY_c (HB.mod0 hq) hy⟩
set_option maxRecDepth 20000 in
set_option maxHeartbeats 3200000 in
theorem ParkN_c (H : BH w0 O b S w) {n : Int} (hn : AwayS S n) : Calls Tryd.prog 17 #[ptrV b, .int .i64 n] w fun e w' => e = .returned (.int .i64 11) ∧ Mod (fun _ => False) w w' := by
  have HH := Lib.hid (And.intro H hn)
  clear H hn
  go_enter Tryd.func17, Tryd.ntmps17
  go_upto_region 1 with fail
  refine wp_pass0 (C := fun _ _ v => v = .tuple #[.agg zItem, .int .i64 11]) (κ := fun i => [0, 0, 2, 0, 0, 0, 3, 4, 0].getD i 0) [0, 1, 2, 3, 4, 5, 6, 7, 8] (by kernel_rfl) (by kernel_rfl) (fun _ _ d _ _ h => by cases d <;> first | exact h | exact absurd h (hP _ _ _)) ?_
  (refine TD.val0 (v := ?v1) (by simp only [zA, zB, zC]; rfl) rfl ?hw1 (fun w1 => ?hy1) ?hn1; (case hw1 => rfl); (case hy1 => (go_simp; (try with_reducible rfl))); (try simp only [Act.put, zF, zG, zH]))
  (refine TD.val0 (v := ?v2) (by simp only [zA, zB, zC]; rfl) rfl ?hw2 (fun w1 => ?hy2) ?hn2; (case hw2 => rfl); (case hy2 => (go_simp; (try with_reducible rfl))); (try simp only [Act.put, zF, zG, zH]))
  (refine TD.call (f := ?f3) (args := ?r3) (Mod.refl _ _) (by simp only [zA, zB, zC]; rfl) rfl ?hw3 (fun w1 => ?hy3) ?hsp3 ?hn3; (case hw3 => rfl); (case hy3 => (go_simp; (first | with_reducible rfl | (constructor <;> with_reducible rfl)))); (case hsp3 => (intro wq hSq; exact (heldA_c (HH.out.1.mod0 hSq) HH.out.2).mono (fun e w' h => ⟨_, h.1, rfl, h.2⟩))); rintro _ rfl; (try simp only [Act.put, zF, zG, zH]))
  (refine TD.val0 (v := ?v4) (by simp only [zA, zB, zC]; rfl) rfl ?hw4 (fun w1 => ?hy4) ?hn4; (case hw4 => rfl); (case hy4 => (go_simp; (try with_reducible rfl))); (try simp only [Act.put, zF, zG, zH]))
  (refine TD.val0 (v := ?v5) (by simp only [zA, zB, zC]; rfl) rfl ?hw5 (fun w1 => ?hy5) ?hn5; (case hw5 => rfl); (case hy5 => (go_simp; (try with_reducible rfl))); (try simp only [Act.put, zF, zG, zH]))
  (refine TD.val0 (v := ?v6) (by simp only [zA, zB, zC]; rfl) rfl ?hw6 (fun w1 => ?hy6) ?hn6; (case hw6 => rfl); (case hy6 => (go_simp; (try with_reducible rfl))); (try simp only [Act.put, zF, zG, zH]))
  (refine TD.allocB (by simp only [zA, zB, zC]; rfl) rfl ?hw7 rfl rfl alItem (fun p5 hp5 => ?hn7); (case hw7 => rfl); (try simp only [Act.put, zF, zG, zH]))
  (refine TD.storeB (d := ?d8) (T := ?T8) (y := ?y8) (p := ?p8) (b := ?b8) (v := ?v8) (by simp only [zA, zB, zC]; rfl) rfl ?hw8 ?hd8 ?hop8 ?hev8 ?hx8 ?hb8 ?htag8 (fun w1 hb1 => ?hy8) ?hn8; (case hw8 => rfl); (case hd8 => rfl); (case hop8 => rfl); (case hev8 => (simp only [Act.eval, zD, zA, zB, zC, zE]; (try rfl))); (case hx8 => (simp only [Act.eval, zD, zA, zB, zC, zE]; (try rfl))); (case hb8 => first | exact Bx.set_same _ _ _ | (simp only [Bx.set_same]; rfl)); (case hy8 => (go_simp; (try first | with_reducible rfl | (rw [setCell_blk hb1]; rfl)))); (try simp only [Act.put, zF, zG, zH]))
  (refine TD.val0 (v := ?v9) (by simp only [zA, zB, zC]; rfl) rfl ?hw9 (fun w1 => ?hy9) ?hn9; (case hw9 => rfl); (case hy9 => (go_simp; (try with_reducible rfl))); (try simp only [Act.put, zF, zG, zH]))
  refine TD.nil (fun w3 hr => ?_)
  have kp5 := hr.box p5 _ (by first | exact Bx.set_same _ _ _ | (simp only [Bx.set_same]; rfl)); dsimp only [Value.cells] at kp5; obtain ⟨gp5, kp5⟩ := kp5
  have m3 := hr.mod
  clear hr
  go_wp2_with fail
  first
  | (go_ret; exact ⟨rfl, m3⟩)
  | (exact bodyPost_ret (results_tmp rfl _ _ _) rfl ⟨rfl, m3⟩)
set_option maxRecDepth 20000 in
set_option maxHeartbeats 3200000 in
theorem BackN_c (H : BH w0 O b S w) {n : Int} (hn : AwayS S n) : Calls Tryd.prog 18 #[ptrV b, .int .i64 n] w fun e w' => e = .returned (.int .i64 11) ∧ Mod (fun _ => False) w w' := by
  have HH := Lib.hid (And.intro H hn)
  clear H hn
  go_enter Tryd.func18, Tryd.ntmps18
  go_upto_region 1 with fail
  refine wp_pass0 (C := fun _ _ v => v = .tuple #[.agg zItem, .int .i64 11]) (κ := fun i => [0, 0, 2, 0, 0, 0, 3, 4, 0].getD i 0) [0, 1, 2, 3, 4, 5, 6, 7, 8] (by kernel_rfl) (by kernel_rfl) (fun _ _ d _ _ h => by cases d <;> first | exact h | exact absurd h (hP _ _ _)) ?_
  (refine TD.val0 (v := ?v10) (by simp only [zA, zB, zC]; rfl) rfl ?hw10 (fun w1 => ?hy10) ?hn10; (case hw10 => rfl); (case hy10 => (go_simp; (try with_reducible rfl))); (try simp only [Act.put, zF, zG, zH]))
  (refine TD.val0 (v := ?v11) (by simp only [zA, zB, zC]; rfl) rfl ?hw11 (fun w1 => ?hy11) ?hn11; (case hw11 => rfl); (case hy11 => (go_simp; (try with_reducible rfl))); (try simp only [Act.put, zF, zG, zH]))
  (refine TD.call (f := ?f12) (args := ?r12) (Mod.refl _ _) (by simp only [zA, zB, zC]; rfl) rfl ?hw12 (fun w1 => ?hy12) ?hsp12 ?hn12; (case hw12 => rfl); (case hy12 => (go_simp; (first | with_reducible rfl | (constructor <;> with_reducible rfl)))); (case hsp12 => (intro wq hSq; exact (heldA_c (HH.out.1.mod0 hSq) HH.out.2).mono (fun e w' h => ⟨_, h.1, rfl, h.2⟩))); rintro _ rfl; (try simp only [Act.put, zF, zG, zH]))
  (refine TD.val0 (v := ?v13) (by simp only [zA, zB, zC]; rfl) rfl ?hw13 (fun w1 => ?hy13) ?hn13; (case hw13 => rfl); (case hy13 => (go_simp; (try with_reducible rfl))); (try simp only [Act.put, zF, zG, zH]))
  (refine TD.val0 (v := ?v14) (by simp only [zA, zB, zC]; rfl) rfl ?hw14 (fun w1 => ?hy14) ?hn14; (case hw14 => rfl); (case hy14 => (go_simp; (try with_reducible rfl))); (try simp only [Act.put, zF, zG, zH]))
  (refine TD.val0 (v := ?v15) (by simp only [zA, zB, zC]; rfl) rfl ?hw15 (fun w1 => ?hy15) ?hn15; (case hw15 => rfl); (case hy15 => (go_simp; (try with_reducible rfl))); (try simp only [Act.put, zF, zG, zH]))
  (refine TD.allocB (by simp only [zA, zB, zC]; rfl) rfl ?hw16 rfl rfl alItem (fun p5 hp5 => ?hn16); (case hw16 => rfl); (try simp only [Act.put, zF, zG, zH]))
  (refine TD.storeB (d := ?d17) (T := ?T17) (y := ?y17) (p := ?p17) (b := ?b17) (v := ?v17) (by simp only [zA, zB, zC]; rfl) rfl ?hw17 ?hd17 ?hop17 ?hev17 ?hx17 ?hb17 ?htag17 (fun w1 hb1 => ?hy17) ?hn17; (case hw17 => rfl); (case hd17 => rfl); (case hop17 => rfl); (case hev17 => (simp only [Act.eval, zD, zA, zB, zC, zE]; (try rfl))); (case hx17 => (simp only [Act.eval, zD, zA, zB, zC, zE]; (try rfl))); (case hb17 => first | exact Bx.set_same _ _ _ | (simp only [Bx.set_same]; rfl)); (case hy17 => (go_simp; (try first | with_reducible rfl | (rw [setCell_blk hb1]; rfl)))); (try simp only [Act.put, zF, zG, zH]))
  (refine TD.val0 (v := ?v18) (by simp only [zA, zB, zC]; rfl) rfl ?hw18 (fun w1 => ?hy18) ?hn18; (case hw18 => rfl); (case hy18 => (go_simp; (try with_reducible rfl))); (try simp only [Act.put, zF, zG, zH]))
  refine TD.nil (fun w3 hr => ?_)
  have kp5 := hr.box p5 _ (by first | exact Bx.set_same _ _ _ | (simp only [Bx.set_same]; rfl)); dsimp only [Value.cells] at kp5; obtain ⟨gp5, kp5⟩ := kp5
  have m3 := hr.mod
  clear hr
  go_wp2_with fail
  first
  | (go_ret; exact ⟨rfl, m3⟩)
  | (exact bodyPost_ret (results_tmp rfl _ _ _) rfl ⟨rfl, m3⟩)
set_option maxRecDepth 20000 in
set_option maxHeartbeats 3200000 in
theorem DoneN_c (H : BH w0 O b S w) {n : Int} (hn : AwayS S n) : Calls Tryd.prog 21 #[ptrV b, .int .i64 n] w fun e w' => e = .returned (.int .i64 11) ∧ Mod (fun _ => False) w w' := by
  have HH := Lib.hid (And.intro H hn)
  clear H hn
  go_enter Tryd.func21, Tryd.ntmps21
  go_upto_region 1 with fail
  refine wp_pass0 (C := fun _ _ v => v = .tuple #[.agg zItem, .int .i64 11]) (κ := fun i => [0, 0, 2, 0, 0, 0, 3, 4, 0].getD i 0) [0, 1, 2, 3, 4, 5, 6, 7, 8] (by kernel_rfl) (by kernel_rfl) (fun _ _ d _ _ h => by cases d <;> first | exact h | exact absurd h (hP _ _ _)) ?_
  (refine TD.val0 (v := ?v19) (by simp only [zA, zB, zC]; rfl) rfl ?hw19 (fun w1 => ?hy19) ?hn19; (case hw19 => rfl); (case hy19 => (go_simp; (try with_reducible rfl))); (try simp only [Act.put, zF, zG, zH]))
  (refine TD.val0 (v := ?v20) (by simp only [zA, zB, zC]; rfl) rfl ?hw20 (fun w1 => ?hy20) ?hn20; (case hw20 => rfl); (case hy20 => (go_simp; (try with_reducible rfl))); (try simp only [Act.put, zF, zG, zH]))
  (refine TD.call (f := ?f21) (args := ?r21) (Mod.refl _ _) (by simp only [zA, zB, zC]; rfl) rfl ?hw21 (fun w1 => ?hy21) ?hsp21 ?hn21; (case hw21 => rfl); (case hy21 => (go_simp; (first | with_reducible rfl | (constructor <;> with_reducible rfl)))); (case hsp21 => (intro wq hSq; exact (heldA_c (HH.out.1.mod0 hSq) HH.out.2).mono (fun e w' h => ⟨_, h.1, rfl, h.2⟩))); rintro _ rfl; (try simp only [Act.put, zF, zG, zH]))
  (refine TD.val0 (v := ?v22) (by simp only [zA, zB, zC]; rfl) rfl ?hw22 (fun w1 => ?hy22) ?hn22; (case hw22 => rfl); (case hy22 => (go_simp; (try with_reducible rfl))); (try simp only [Act.put, zF, zG, zH]))
  (refine TD.val0 (v := ?v23) (by simp only [zA, zB, zC]; rfl) rfl ?hw23 (fun w1 => ?hy23) ?hn23; (case hw23 => rfl); (case hy23 => (go_simp; (try with_reducible rfl))); (try simp only [Act.put, zF, zG, zH]))
  (refine TD.val0 (v := ?v24) (by simp only [zA, zB, zC]; rfl) rfl ?hw24 (fun w1 => ?hy24) ?hn24; (case hw24 => rfl); (case hy24 => (go_simp; (try with_reducible rfl))); (try simp only [Act.put, zF, zG, zH]))
  (refine TD.allocB (by simp only [zA, zB, zC]; rfl) rfl ?hw25 rfl rfl alItem (fun p5 hp5 => ?hn25); (case hw25 => rfl); (try simp only [Act.put, zF, zG, zH]))
  (refine TD.storeB (d := ?d26) (T := ?T26) (y := ?y26) (p := ?p26) (b := ?b26) (v := ?v26) (by simp only [zA, zB, zC]; rfl) rfl ?hw26 ?hd26 ?hop26 ?hev26 ?hx26 ?hb26 ?htag26 (fun w1 hb1 => ?hy26) ?hn26; (case hw26 => rfl); (case hd26 => rfl); (case hop26 => rfl); (case hev26 => (simp only [Act.eval, zD, zA, zB, zC, zE]; (try rfl))); (case hx26 => (simp only [Act.eval, zD, zA, zB, zC, zE]; (try rfl))); (case hb26 => first | exact Bx.set_same _ _ _ | (simp only [Bx.set_same]; rfl)); (case hy26 => (go_simp; (try first | with_reducible rfl | (rw [setCell_blk hb1]; rfl)))); (try simp only [Act.put, zF, zG, zH]))
  (refine TD.val0 (v := ?v27) (by simp only [zA, zB, zC]; rfl) rfl ?hw27 (fun w1 => ?hy27) ?hn27; (case hw27 => rfl); (case hy27 => (go_simp; (try with_reducible rfl))); (try simp only [Act.put, zF, zG, zH]))
  refine TD.nil (fun w3 hr => ?_)
  have kp5 := hr.box p5 _ (by first | exact Bx.set_same _ _ _ | (simp only [Bx.set_same]; rfl)); dsimp only [Value.cells] at kp5; obtain ⟨gp5, kp5⟩ := kp5
  have m3 := hr.mod
  clear hr
  go_wp2_with fail
  first
  | (go_ret; exact ⟨rfl, m3⟩)
  | (exact bodyPost_ret (results_tmp rfl _ _ _) rfl ⟨rfl, m3⟩)
set_option maxRecDepth 20000 in
set_option maxHeartbeats 3200000 in
theorem SendN_c (H : BH w0 O b S w) {n : Int} (hn : AwayS S n) : Calls Tryd.prog 22 #[ptrV b, .int .i64 n] w fun e w' => e = .returned (.int .i64 11) ∧ Mod (fun _ => False) w w' := by
  have HH := Lib.hid (And.intro H hn)
  clear H hn
  go_enter Tryd.func22, Tryd.ntmps22
  go_upto_region 1 with fail
  refine wp_pass0 (C := fun _ _ v => v = .tuple #[.agg zItem, .int .i64 11]) (κ := fun i => [0, 0, 2, 0, 0, 0, 3, 4, 0].getD i 0) [0, 1, 2, 3, 4, 5, 6, 7, 8] (by kernel_rfl) (by kernel_rfl) (fun _ _ d _ _ h => by cases d <;> first | exact h | exact absurd h (hP _ _ _)) ?_
  (refine TD.val0 (v := ?v28) (by simp only [zA, zB, zC]; rfl) rfl ?hw28 (fun w1 => ?hy28) ?hn28; (case hw28 => rfl); (case hy28 => (go_simp; (try with_reducible rfl))); (try simp only [Act.put, zF, zG, zH]))
  (refine TD.val0 (v := ?v29) (by simp only [zA, zB, zC]; rfl) rfl ?hw29 (fun w1 => ?hy29) ?hn29; (case hw29 => rfl); (case hy29 => (go_simp; (try with_reducible rfl))); (try simp only [Act.put, zF, zG, zH]))
  (refine TD.call (f := ?f30) (args := ?r30) (Mod.refl _ _) (by simp only [zA, zB, zC]; rfl) rfl ?hw30 (fun w1 => ?hy30) ?hsp30 ?hn30; (case hw30 => rfl); (case hy30 => (go_simp; (first | with_reducible rfl | (constructor <;> with_reducible rfl)))); (case hsp30 => (intro wq hSq; exact (heldA_c (HH.out.1.mod0 hSq) HH.out.2).mono (fun e w' h => ⟨_, h.1, rfl, h.2⟩))); rintro _ rfl; (try simp only [Act.put, zF, zG, zH]))
  (refine TD.val0 (v := ?v31) (by simp only [zA, zB, zC]; rfl) rfl ?hw31 (fun w1 => ?hy31) ?hn31; (case hw31 => rfl); (case hy31 => (go_simp; (try with_reducible rfl))); (try simp only [Act.put, zF, zG, zH]))
  (refine TD.val0 (v := ?v32) (by simp only [zA, zB, zC]; rfl) rfl ?hw32 (fun w1 => ?hy32) ?hn32; (case hw32 => rfl); (case hy32 => (go_simp; (try with_reducible rfl))); (try simp only [Act.put, zF, zG, zH]))
  (refine TD.val0 (v := ?v33) (by simp only [zA, zB, zC]; rfl) rfl ?hw33 (fun w1 => ?hy33) ?hn33; (case hw33 => rfl); (case hy33 => (go_simp; (try with_reducible rfl))); (try simp only [Act.put, zF, zG, zH]))
  (refine TD.allocB (by simp only [zA, zB, zC]; rfl) rfl ?hw34 rfl rfl alItem (fun p5 hp5 => ?hn34); (case hw34 => rfl); (try simp only [Act.put, zF, zG, zH]))
  (refine TD.storeB (d := ?d35) (T := ?T35) (y := ?y35) (p := ?p35) (b := ?b35) (v := ?v35) (by simp only [zA, zB, zC]; rfl) rfl ?hw35 ?hd35 ?hop35 ?hev35 ?hx35 ?hb35 ?htag35 (fun w1 hb1 => ?hy35) ?hn35; (case hw35 => rfl); (case hd35 => rfl); (case hop35 => rfl); (case hev35 => (simp only [Act.eval, zD, zA, zB, zC, zE]; (try rfl))); (case hx35 => (simp only [Act.eval, zD, zA, zB, zC, zE]; (try rfl))); (case hb35 => first | exact Bx.set_same _ _ _ | (simp only [Bx.set_same]; rfl)); (case hy35 => (go_simp; (try first | with_reducible rfl | (rw [setCell_blk hb1]; rfl)))); (try simp only [Act.put, zF, zG, zH]))
  (refine TD.val0 (v := ?v36) (by simp only [zA, zB, zC]; rfl) rfl ?hw36 (fun w1 => ?hy36) ?hn36; (case hw36 => rfl); (case hy36 => (go_simp; (try with_reducible rfl))); (try simp only [Act.put, zF, zG, zH]))
  refine TD.nil (fun w3 hr => ?_)
  have kp5 := hr.box p5 _ (by first | exact Bx.set_same _ _ _ | (simp only [Bx.set_same]; rfl)); dsimp only [Value.cells] at kp5; obtain ⟨gp5, kp5⟩ := kp5
  have m3 := hr.mod
  clear hr
  go_wp2_with fail
  first
  | (go_ret; exact ⟨rfl, m3⟩)
  | (exact bodyPost_ret (results_tmp rfl _ _ _) rfl ⟨rfl, m3⟩)
set_option maxRecDepth 20000 in
set_option maxHeartbeats 3200000 in
theorem ParkY_c (H : BH w0 O b S w) {i : Nat} {x : It} (hx : S[i]? = some (some x)) (hp : x.pl = 1) : Calls Tryd.prog 17 #[ptrV b, .int .i64 (i : Int)] w fun e w' => e = .returned (.int .i64 0) ∧ BH w0 O b (S.set i (some { x with pl := 2 })) w' := by
  obtain ⟨y, hy, hc⟩ := heldP_c H hx
  have hpl : ((y.pl.toNat : Int) == 1) = true := u8_is 1 rfl (UInt8.toNat_inj.1 (by rw [← hy] at hp; exact hp))
  have HH := Lib.hid (And.intro H (And.intro hx (And.intro hy hc)))
  clear H hx hy hc hp
  go_enter Tryd.func17, Tryd.ntmps17
  go_upto_region 1 with fail
  refine wp_pass0 (C := fun _ _ v => v = .tuple #[.agg (itr y), .int .i64 0]) (κ := fun i => [0, 0, 2, 0, 0, 0, 3, 4, 0].getD i 0) [0, 1, 2, 3, 4, 5, 6, 7, 8] (by kernel_rfl) (by kernel_rfl) (fun _ _ d _ _ h => by cases d <;> first | exact h | exact absurd h (hP _ _ _)) ?_
  (refine TD.val0 (v := ?v37) (by simp only [zA, zB, zC]; rfl) rfl ?hw37 (fun w1 => ?hy37) ?hn37; (case hw37 => rfl); (case hy37 => (go_simp; (try with_reducible rfl))); (try simp only [Act.put, zF, zG, zH]))
  (refine TD.val0 (v := ?v38) (by simp only [zA, zB, zC]; rfl) rfl ?hw38 (fun w1 => ?hy38) ?hn38; (case hw38 => rfl); (case hy38 => (go_simp; (try with_reducible rfl))); (try simp only [Act.put, zF, zG, zH]))
  (refine TD.call (f := ?f39) (args := ?r39) (Mod.refl _ _) (by simp only [zA, zB, zC]; rfl) rfl ?hw39 (fun w1 => ?hy39) ?hsp39 ?hn39; (case hw39 => rfl); (case hy39 => (go_simp; (first | with_reducible rfl | (constructor <;> with_reducible rfl)))); (case hsp39 => (intro wq hSq; exact (HH.out.2.2.2 wq hSq).mono (fun e w' h => ⟨_, h.1, rfl, h.2⟩))); rintro _ rfl; (try simp only [Act.put, zF, zG, zH]))
  (refine TD.val0 (v := ?v40) (by simp only [zA, zB, zC]; rfl) rfl ?hw40 (fun w1 => ?hy40) ?hn40; (case hw40 => rfl); (case hy40 => (go_simp; (try with_reducible rfl))); (try simp only [Act.put, zF, zG, zH]))
  (refine TD.val0 (v := ?v41) (by simp only [zA, zB, zC]; rfl) rfl ?hw41 (fun w1 => ?hy41) ?hn41; (case hw41 => rfl); (case hy41 => (go_simp; (try with_reducible rfl))); (try simp only [Act.put, zF, zG, zH]))
  (refine TD.val0 (v := ?v42) (by simp only [zA, zB, zC]; rfl) rfl ?hw42 (fun w1 => ?hy42) ?hn42; (case hw42 => rfl); (case hy42 => (go_simp; (try with_reducible rfl))); (try simp only [Act.put, zF, zG, zH]))
  (refine TD.allocB (by simp only [zA, zB, zC]; rfl) rfl ?hw43 rfl rfl alItem (fun p5 hp5 => ?hn43); (case hw43 => rfl); (try simp only [Act.put, zF, zG, zH]))
  (refine TD.storeB (d := ?d44) (T := ?T44) (y := ?y44) (p := ?p44) (b := ?b44) (v := ?v44) (by simp only [zA, zB, zC]; rfl) rfl ?hw44 ?hd44 ?hop44 ?hev44 ?hx44 ?hb44 ?htag44 (fun w1 hb1 => ?hy44) ?hn44; (case hw44 => rfl); (case hd44 => rfl); (case hop44 => rfl); (case hev44 => (simp only [Act.eval, zD, zA, zB, zC, zE]; (try rfl))); (case hx44 => (simp only [Act.eval, zD, zA, zB, zC, zE]; (try rfl))); (case hb44 => first | exact Bx.set_same _ _ _ | (simp only [Bx.set_same]; rfl)); (case hy44 => (go_simp; (try first | with_reducible rfl | (rw [setCell_blk hb1]; rfl)))); (try simp only [Act.put, zF, zG, zH]))
  (refine TD.val0 (v := ?v45) (by simp only [zA, zB, zC]; rfl) rfl ?hw45 (fun w1 => ?hy45) ?hn45; (case hw45 => rfl); (case hy45 => (go_simp; (try with_reducible rfl))); (try simp only [Act.put, zF, zG, zH]))
  refine TD.nil (fun w3 hr => ?_)
  have kp5 := hr.box p5 _ (by first | exact Bx.set_same _ _ _ | (simp only [Bx.set_same]; rfl)); dsimp only [Value.cells] at kp5; obtain ⟨gp5, kp5⟩ := kp5
  have m3 := hr.mod
  clear hr
  go_wp2_with fail
  go_at_call 38
  refine (turn_c (HH.out.1.mod0 m3) HH.out.2.1 2).mono ?_
  rintro e w4 ⟨rfl, H4⟩
  have HX := Lib.hid H4
  clear H4
  go_wp2_with fail
  go_ret
  exact ⟨rfl, HX.out⟩
set_option maxRecDepth 20000 in
set_option maxHeartbeats 3200000 in
theorem ParkX_c (H : BH w0 O b S w) {i : Nat} {x : It} (hx : S[i]? = some (some x)) (hp : x.pl ≠ 1) : Calls Tryd.prog 17 #[ptrV b, .int .i64 (i : Int)] w fun e w' => e = .returned (.int .i64 23) ∧ Mod (fun _ => False) w w' := by
  obtain ⟨y, hy, hc⟩ := heldP_c H hx
  have hpl : ((y.pl.toNat : Int) == 1) = false := u8_not 1 rfl (fun e => hp (by rw [← hy]; show y.pl.toNat = 1; rw [e]; rfl))
  have HH := Lib.hid (And.intro H (And.intro hx (And.intro hy hc)))
  clear H hx hy hc hp
  go_enter Tryd.func17, Tryd.ntmps17
  go_upto_region 1 with fail
  refine wp_pass0 (C := fun _ _ v => v = .tuple #[.agg (itr y), .int .i64 0]) (κ := fun i => [0, 0, 2, 0, 0, 0, 3, 4, 0].getD i 0) [0, 1, 2, 3, 4, 5, 6, 7, 8] (by kernel_rfl) (by kernel_rfl) (fun _ _ d _ _ h => by cases d <;> first | exact h | exact absurd h (hP _ _ _)) ?_
  (refine TD.val0 (v := ?v46) (by simp only [zA, zB, zC]; rfl) rfl ?hw46 (fun w1 => ?hy46) ?hn46; (case hw46 => rfl); (case hy46 => (go_simp; (try with_reducible rfl))); (try simp only [Act.put, zF, zG, zH]))
  (refine TD.val0 (v := ?v47) (by simp only [zA, zB, zC]; rfl) rfl ?hw47 (fun w1 => ?hy47) ?hn47; (case hw47 => rfl); (case hy47 => (go_simp; (try with_reducible rfl))); (try simp only [Act.put, zF, zG, zH]))
  (refine TD.call (f := ?f48) (args := ?r48) (Mod.refl _ _) (by simp only [zA, zB, zC]; rfl) rfl ?hw48 (fun w1 => ?hy48) ?hsp48 ?hn48; (case hw48 => rfl); (case hy48 => (go_simp; (first | with_reducible rfl | (constructor <;> with_reducible rfl)))); (case hsp48 => (intro wq hSq; exact (HH.out.2.2.2 wq hSq).mono (fun e w' h => ⟨_, h.1, rfl, h.2⟩))); rintro _ rfl; (try simp only [Act.put, zF, zG, zH]))
  (refine TD.val0 (v := ?v49) (by simp only [zA, zB, zC]; rfl) rfl ?hw49 (fun w1 => ?hy49) ?hn49; (case hw49 => rfl); (case hy49 => (go_simp; (try with_reducible rfl))); (try simp only [Act.put, zF, zG, zH]))
  (refine TD.val0 (v := ?v50) (by simp only [zA, zB, zC]; rfl) rfl ?hw50 (fun w1 => ?hy50) ?hn50; (case hw50 => rfl); (case hy50 => (go_simp; (try with_reducible rfl))); (try simp only [Act.put, zF, zG, zH]))
  (refine TD.val0 (v := ?v51) (by simp only [zA, zB, zC]; rfl) rfl ?hw51 (fun w1 => ?hy51) ?hn51; (case hw51 => rfl); (case hy51 => (go_simp; (try with_reducible rfl))); (try simp only [Act.put, zF, zG, zH]))
  (refine TD.allocB (by simp only [zA, zB, zC]; rfl) rfl ?hw52 rfl rfl alItem (fun p5 hp5 => ?hn52); (case hw52 => rfl); (try simp only [Act.put, zF, zG, zH]))
  (refine TD.storeB (d := ?d53) (T := ?T53) (y := ?y53) (p := ?p53) (b := ?b53) (v := ?v53) (by simp only [zA, zB, zC]; rfl) rfl ?hw53 ?hd53 ?hop53 ?hev53 ?hx53 ?hb53 ?htag53 (fun w1 hb1 => ?hy53) ?hn53; (case hw53 => rfl); (case hd53 => rfl); (case hop53 => rfl); (case hev53 => (simp only [Act.eval, zD, zA, zB, zC, zE]; (try rfl))); (case hx53 => (simp only [Act.eval, zD, zA, zB, zC, zE]; (try rfl))); (case hb53 => first | exact Bx.set_same _ _ _ | (simp only [Bx.set_same]; rfl)); (case hy53 => (go_simp; (try first | with_reducible rfl | (rw [setCell_blk hb1]; rfl)))); (try simp only [Act.put, zF, zG, zH]))
  (refine TD.val0 (v := ?v54) (by simp only [zA, zB, zC]; rfl) rfl ?hw54 (fun w1 => ?hy54) ?hn54; (case hw54 => rfl); (case hy54 => (go_simp; (try with_reducible rfl))); (try simp only [Act.put, zF, zG, zH]))
  refine TD.nil (fun w3 hr => ?_)
  have kp5 := hr.box p5 _ (by first | exact Bx.set_same _ _ _ | (simp only [Bx.set_same]; rfl)); dsimp only [Value.cells] at kp5; obtain ⟨gp5, kp5⟩ := kp5
  have m3 := hr.mod
  clear hr
  go_wp2_with fail
  go_ret
  exact ⟨rfl, m3⟩
set_option maxRecDepth 20000 in
set_option maxHeartbeats 3200000 in
theorem BackY_c (H : BH w0 O b S w) {i : Nat} {x : It} (hx : S[i]? = some (some x)) (hp : x.pl ≠ 0) : Calls Tryd.prog 18 #[ptrV b, .int .i64 (i : Int)] w fun e w' => e = .returned (.int .i64 0) ∧ BH w0 O b (S.set i (some { x with pl := 0 })) w' := by
  obtain ⟨y, hy, hc⟩ := heldP_c H hx
  have hpl : ((y.pl.toNat : Int) == 0) = false := u8_not 0 rfl (fun e => hp (by rw [← hy]; show y.pl.toNat = 0; rw [e]; rfl))
  have HH := Lib.hid (And.intro H (And.intro hx (And.intro hy hc)))
  clear H hx hy hc hp
  go_enter Tryd.func18, Tryd.ntmps18
  go_upto_region 1 with fail
  refine wp_pass0 (C := fun _ _ v => v = .tuple #[.agg (itr y), .int .i64 0]) (κ := fun i => [0, 0, 2, 0, 0, 0, 3, 4, 0].getD i 0) [0, 1, 2, 3, 4, 5, 6, 7, 8] (by kernel_rfl) (by kernel_rfl) (fun _ _ d _ _ h => by cases d <;> first | exact h | exact absurd h (hP _ _ _)) ?_
  (refine TD.val0 (v := ?v55) (by simp only [zA, zB, zC]; rfl) rfl ?hw55 (fun w1 => ?hy55) ?hn55; (case hw55 => rfl); (case hy55 => (go_simp; (try with_reducible rfl))); (try simp only [Act.put, zF, zG, zH]))
  (refine TD.val0 (v := ?v56) (by simp only [zA, zB, zC]; rfl) rfl ?hw56 (fun w1 => ?hy56) ?hn56; (case hw56 => rfl); (case hy56 => (go_simp; (try with_reducible rfl))); (try simp only [Act.put, zF, zG, zH]))
  (refine TD.call (f := ?f57) (args := ?r57) (Mod.refl _ _) (by simp only [zA, zB, zC]; rfl) rfl ?hw57 (fun w1 => ?hy57) ?hsp57 ?hn57; (case hw57 => rfl); (case hy57 => (go_simp; (first | with_reducible rfl | (constructor <;> with_reducible rfl)))); (case hsp57 => (intro wq hSq; exact (HH.out.2.2.2 wq hSq).mono (fun e w' h => ⟨_, h.1, rfl, h.2⟩))); rintro _ rfl; (try simp only [Act.put, zF, zG, zH]))
  (refine TD.val0 (v := ?v58) (by simp only [zA, zB, zC]; rfl) rfl ?hw58 (fun w1 => ?hy58) ?hn58; (case hw58 => rfl); (case hy58 => (go_simp; (try with_reducible rfl))); (try simp only [Act.put, zF, zG, zH]))
  (refine TD.val0 (v := ?v59) (by simp only [zA, zB, zC]; rfl) rfl ?hw59 (fun w1 => ?hy59) ?hn59; (case hw59 => rfl); (case hy59 => (go_simp; (try with_reducible rfl))); (try simp only [Act.put, zF, zG, zH]))
  (refine TD.val0 (v := ?v60) (by simp only [zA, zB, zC]; rfl) rfl ?hw60 (fun w1 => ?hy60) ?hn60; (case hw60 => rfl); (case hy60 => (go_simp; (try with_reducible rfl))); (try simp only [Act.put, zF, zG, zH]))
  (refine TD.allocB (by simp only [zA, zB, zC]; rfl) rfl ?hw61 rfl rfl alItem (fun p5 hp5 => ?hn61); (case hw61 => rfl); (try simp only [Act.put, zF, zG, zH]))
  (refine TD.storeB (d := ?d62) (T := ?T62) (y := ?y62) (p := ?p62) (b := ?b62) (v := ?v62) (by simp only [zA, zB, zC]; rfl) rfl ?hw62 ?hd62 ?hop62 ?hev62 ?hx62 ?hb62 ?htag62 (fun w1 hb1 => ?hy62) ?hn62; (case hw62 => rfl); (case hd62 => rfl); (case hop62 => rfl); (case hev62 => (simp only [Act.eval, zD, zA, zB, zC, zE]; (try rfl))); (case hx62 => (simp only [Act.eval, zD, zA, zB, zC, zE]; (try rfl))); (case hb62 => first | exact Bx.set_same _ _ _ | (simp only [Bx.set_same]; rfl)); (case hy62 => (go_simp; (try first | with_reducible rfl | (rw [setCell_blk hb1]; rfl)))); (try simp only [Act.put, zF, zG, zH]))
  (refine TD.val0 (v := ?v63) (by simp only [zA, zB, zC]; rfl) rfl ?hw63 (fun w1 => ?hy63) ?hn63; (case hw63 => rfl); (case hy63 => (go_simp; (try with_reducible rfl))); (try simp only [Act.put, zF, zG, zH]))
  refine TD.nil (fun w3 hr => ?_)
  have kp5 := hr.box p5 _ (by first | exact Bx.set_same _ _ _ | (simp only [Bx.set_same]; rfl)); dsimp only [Value.cells] at kp5; obtain ⟨gp5, kp5⟩ := kp5
  have m3 := hr.mod
  clear hr
  go_wp2_with fail
  go_at_call 38
  refine (turn_c (HH.out.1.mod0 m3) HH.out.2.1 0).mono ?_
  rintro e w4 ⟨rfl, H4⟩
  have HX := Lib.hid H4
  clear H4
  go_wp2_with fail
  go_ret
  exact ⟨rfl, HX.out⟩
set_option maxRecDepth 20000 in
set_option maxHeartbeats 3200000 in
theorem BackX_c (H : BH w0 O b S w) {i : Nat} {x : It} (hx : S[i]? = some (some x)) (hp : x.pl = 0) : Calls Tryd.prog 18 #[ptrV b, .int .i64 (i : Int)] w fun e w' => e = .returned (.int .i64 23) ∧ Mod (fun _ => False) w w' := by
  obtain ⟨y, hy, hc⟩ := heldP_c H hx
  have hpl : ((y.pl.toNat : Int) == 0) = true := u8_is 0 rfl (UInt8.toNat_inj.1 (by rw [← hy] at hp; exact hp))
  have HH := Lib.hid (And.intro H (And.intro hx (And.intro hy hc)))
  clear H hx hy hc hp
  go_enter Tryd.func18, Tryd.ntmps18
  go_upto_region 1 with fail
  refine wp_pass0 (C := fun _ _ v => v = .tuple #[.agg (itr y), .int .i64 0]) (κ := fun i => [0, 0, 2, 0, 0, 0, 3, 4, 0].getD i 0) [0, 1, 2, 3, 4, 5, 6, 7, 8] (by kernel_rfl) (by kernel_rfl) (fun _ _ d _ _ h => by cases d <;> first | exact h | exact absurd h (hP _ _ _)) ?_
  (refine TD.val0 (v := ?v64) (by simp only [zA, zB, zC]; rfl) rfl ?hw64 (fun w1 => ?hy64) ?hn64; (case hw64 => rfl); (case hy64 => (go_simp; (try with_reducible rfl))); (try simp only [Act.put, zF, zG, zH]))
  (refine TD.val0 (v := ?v65) (by simp only [zA, zB, zC]; rfl) rfl ?hw65 (fun w1 => ?hy65) ?hn65; (case hw65 => rfl); (case hy65 => (go_simp; (try with_reducible rfl))); (try simp only [Act.put, zF, zG, zH]))
  (refine TD.call (f := ?f66) (args := ?r66) (Mod.refl _ _) (by simp only [zA, zB, zC]; rfl) rfl ?hw66 (fun w1 => ?hy66) ?hsp66 ?hn66; (case hw66 => rfl); (case hy66 => (go_simp; (first | with_reducible rfl | (constructor <;> with_reducible rfl)))); (case hsp66 => (intro wq hSq; exact (HH.out.2.2.2 wq hSq).mono (fun e w' h => ⟨_, h.1, rfl, h.2⟩))); rintro _ rfl; (try simp only [Act.put, zF, zG, zH]))
  (refine TD.val0 (v := ?v67) (by simp only [zA, zB, zC]; rfl) rfl ?hw67 (fun w1 => ?hy67) ?hn67; (case hw67 => rfl); (case hy67 => (go_simp; (try with_reducible rfl))); (try simp only [Act.put, zF, zG, zH]))
  (refine TD.val0 (v := ?v68) (by simp only [zA, zB, zC]; rfl) rfl ?hw68 (fun w1 => ?hy68) ?hn68; (case hw68 => rfl); (case hy68 => (go_simp; (try with_reducible rfl))); (try simp only [Act.put, zF, zG, zH]))
  (refine TD.val0 (v := ?v69) (by simp only [zA, zB, zC]; rfl) rfl ?hw69 (fun w1 => ?hy69) ?hn69; (case hw69 => rfl); (case hy69 => (go_simp; (try with_reducible rfl))); (try simp only [Act.put, zF, zG, zH]))
  (refine TD.allocB (by simp only [zA, zB, zC]; rfl) rfl ?hw70 rfl rfl alItem (fun p5 hp5 => ?hn70); (case hw70 => rfl); (try simp only [Act.put, zF, zG, zH]))
  (refine TD.storeB (d := ?d71) (T := ?T71) (y := ?y71) (p := ?p71) (b := ?b71) (v := ?v71) (by simp only [zA, zB, zC]; rfl) rfl ?hw71 ?hd71 ?hop71 ?hev71 ?hx71 ?hb71 ?htag71 (fun w1 hb1 => ?hy71) ?hn71; (case hw71 => rfl); (case hd71 => rfl); (case hop71 => rfl); (case hev71 => (simp only [Act.eval, zD, zA, zB, zC, zE]; (try rfl))); (case hx71 => (simp only [Act.eval, zD, zA, zB, zC, zE]; (try rfl))); (case hb71 => first | exact Bx.set_same _ _ _ | (simp only [Bx.set_same]; rfl)); (case hy71 => (go_simp; (try first | with_reducible rfl | (rw [setCell_blk hb1]; rfl)))); (try simp only [Act.put, zF, zG, zH]))
  (refine TD.val0 (v := ?v72) (by simp only [zA, zB, zC]; rfl) rfl ?hw72 (fun w1 => ?hy72) ?hn72; (case hw72 => rfl); (case hy72 => (go_simp; (try with_reducible rfl))); (try simp only [Act.put, zF, zG, zH]))
  refine TD.nil (fun w3 hr => ?_)
  have kp5 := hr.box p5 _ (by first | exact Bx.set_same _ _ _ | (simp only [Bx.set_same]; rfl)); dsimp only [Value.cells] at kp5; obtain ⟨gp5, kp5⟩ := kp5
  have m3 := hr.mod
  clear hr
  go_wp2_with fail
  go_ret
  exact ⟨rfl, m3⟩
theorem fin_free (H : BH w0 O b S w) {i : Nat} {x : It} (hx : S[i]? = some (some x)) (hp : x.pl ≠ 0) : ∃ s h, w.heap[b]? = some (.cells #[ptrV s, ptrV h] 84 (0, 0)) ∧ Calls Tryd.prog 32 #[ptrV s, .int .i64 (i : Int)] w fun e w' => e = .returned (.int .i64 0) ∧ BH w0 O b (S.set i none) w' := by
  have hlen := H.len
  obtain ⟨s, h, R, C, Ts, Th, Tr, HB, rfl, hperm, hT, m⟩ := H
  obtain ⟨y, hy, rfl⟩ := con_at hx
  refine ⟨s, h, HB.kb, (sfree_c HB.sat hy).mono ?_⟩
  rintro e w' ⟨he, hs, hm⟩
  have hil : i < (conS R).length := (List.getElem?_eq_some_iff.1 hx).1
  refine ⟨he, s, h, R.set i none, C, Ts, Th, Tr, HB.stepS hs hm (fun k y' hy' => ?_), con_setN.symm, ?_, fun j hj => ⟨(hT j hj).1, Nat.lt_of_lt_of_le (hT j hj).2 hm.size⟩, m.then hm (fun j hj e => (hT j (.inl e)).1.resolve_right (by omega))⟩
  · by_cases hk : k = i
    · subst hk
      rw [List.getElem?_set_self (List.getElem?_eq_some_iff.1 hy).1] at hy'
      cases hy'
    · rw [List.getElem?_set_ne (fun e => hk e.symm)] at hy'
      exact .inl hy'
  · exact keep_perm (node_none (by omega) hperm hx (by simp [nodeOf, hp])).2 hil rfl
set_option maxRecDepth 20000 in
set_option maxHeartbeats 3200000 in
theorem DoneY_c (H : BH w0 O b S w) {i : Nat} {x : It} (hx : S[i]? = some (some x)) : Calls Tryd.prog 21 #[ptrV b, .int .i64 (i : Int)] w fun e w' => e = .returned (.int .i64 0) ∧ BH w0 O b (S.set i none) w' := by
  obtain ⟨y, hy, hc⟩ := heldP_c H hx
  have hp := trivial
  have HH := Lib.hid (And.intro H (And.intro hx (And.intro hy hc)))
  clear H hx hy hc hp
  go_enter Tryd.func21, Tryd.ntmps21
  go_upto_region 1 with fail
  refine wp_pass0 (C := fun _ _ v => v = .tuple #[.agg (itr y), .int .i64 0]) (κ := fun i => [0, 0, 2, 0, 0, 0, 3, 4, 0].getD i 0) [0, 1, 2, 3, 4, 5, 6, 7, 8] (by kernel_rfl) (by kernel_rfl) (fun _ _ d _ _ h => by cases d <;> first | exact h | exact absurd h (hP _ _ _)) ?_
  (refine TD.val0 (v := ?v73) (by simp only [zA, zB, zC]; rfl) rfl ?hw73 (fun w1 => ?hy73) ?hn73; (case hw73 => rfl); (case hy73 => (go_simp; (try with_reducible rfl))); (try simp only [Act.put, zF, zG, zH]))
  (refine TD.val0 (v := ?v74) (by simp only [zA, zB, zC]; rfl) rfl ?hw74 (fun w1 => ?hy74) ?hn74; (case hw74 => rfl); (case hy74 => (go_simp; (try with_reducible rfl))); (try simp only [Act.put, zF, zG, zH]))
  (refine TD.call (f := ?f75) (args := ?r75) (Mod.refl _ _) (by simp only [zA, zB, zC]; rfl) rfl ?hw75 (fun w1 => ?hy75) ?hsp75 ?hn75; (case hw75 => rfl); (case hy75 => (go_simp; (first | with_reducible rfl | (constructor <;> with_reducible rfl)))); (case hsp75 => (intro wq hSq; exact (HH.out.2.2.2 wq hSq).mono (fun e w' h => ⟨_, h.1, rfl, h.2⟩))); rintro _ rfl; (try simp only [Act.put, zF, zG, zH]))
  (refine TD.val0 (v := ?v76) (by simp only [zA, zB, zC]; rfl) rfl ?hw76 (fun w1 => ?hy76) ?hn76; (case hw76 => rfl); (case hy76 => (go_simp; (try with_reducible rfl))); (try simp only [Act.put, zF, zG, zH]))
  (refine TD.val0 (v := ?v77) (by simp only [zA, zB, zC]; rfl) rfl ?hw77 (fun w1 => ?hy77) ?hn77; (case hw77 => rfl); (case hy77 => (go_simp; (try with_reducible rfl))); (try simp only [Act.put, zF, zG, zH]))
  (refine TD.val0 (v := ?v78) (by simp only [zA, zB, zC]; rfl) rfl ?hw78 (fun w1 => ?hy78) ?hn78; (case hw78 => rfl); (case hy78 => (go_simp; (try with_reducible rfl))); (try simp only [Act.put, zF, zG, zH]))
  (refine TD.allocB (by simp only [zA, zB, zC]; rfl) rfl ?hw79 rfl rfl alItem (fun p5 hp5 => ?hn79); (case hw79 => rfl); (try simp only [Act.put, zF, zG, zH]))
  (refine TD.storeB (d := ?d80) (T := ?T80) (y := ?y80) (p := ?p80) (b := ?b80) (v := ?v80) (by simp only [zA, zB, zC]; rfl) rfl ?hw80 ?hd80 ?hop80 ?hev80 ?hx80 ?hb80 ?htag80 (fun w1 hb1 => ?hy80) ?hn80; (case hw80 => rfl); (case hd80 => rfl); (case hop80 => rfl); (case hev80 => (simp only [Act.eval, zD, zA, zB, zC, zE]; (try rfl))); (case hx80 => (simp only [Act.eval, zD, zA, zB, zC, zE]; (try rfl))); (case hb80 => first | exact Bx.set_same _ _ _ | (simp only [Bx.set_same]; rfl)); (case hy80 => (go_simp; (try first | with_reducible rfl | (rw [setCell_blk hb1]; rfl)))); (try simp only [Act.put, zF, zG, zH]))
  (refine TD.val0 (v := ?v81) (by simp only [zA, zB, zC]; rfl) rfl ?hw81 (fun w1 => ?hy81) ?hn81; (case hw81 => rfl); (case hy81 => (go_simp; (try with_reducible rfl))); (try simp only [Act.put, zF, zG, zH]))
  refine TD.nil (fun w3 hr => ?_)
  have kp5 := hr.box p5 _ (by first | exact Bx.set_same _ _ _ | (simp only [Bx.set_same]; rfl)); dsimp only [Value.cells] at kp5; obtain ⟨gp5, kp5⟩ := kp5
  have m3 := hr.mod
  clear hr
  go_wp2_with fail
  go_at_call 38
  refine (turn_c (HH.out.1.mod0 m3) HH.out.2.1 1).mono ?_
  rintro e w4 ⟨rfl, H4⟩
  have hx4 : (S.set i (some { x with pl := (1 : UInt8).toNat }))[i]? = some (some { x with pl := (1 : UInt8).toNat }) := List.getElem?_set_self (List.getElem?_eq_some_iff.1 HH.out.2.1).1
  obtain ⟨s, h, kb, hf⟩ := fin_free H4 hx4 (by show (1 : UInt8).toNat ≠ 0; decide)
  rw [List.set_set] at hf
  have HF := Lib.hid hf
  clear H4 hx4 hf
  go_wp2_with fail
  go_at_call 32
  refine HF.out.mono ?_
  rintro e w5 ⟨rfl, H5⟩
  have HX := Lib.hid H5
  clear H5
  go_wp2_with fail
  go_ret
  exact ⟨rfl, HX.out⟩
set_option maxRecDepth 20000 in
set_option maxHeartbeats 3200000 in
theorem SendY_c (H : BH w0 O b S w) {i : Nat} {x : It} (hx : S[i]? = some (some x)) : Calls Tryd.prog 22 #[ptrV b, .int .i64 (i : Int)] w fun e w' => e = .returned (.int .i64 0) ∧ BH w0 O b (S.set i (some { x with sent := true })) w' := by
  have hlen := H.len
  obtain ⟨s, h, R, C, Ts, Th, Tr, HB, rfl, hperm, hT, m⟩ := H
  obtain ⟨y, hy, rfl⟩ := con_at hx
  have kb := HB.kb
  have hp := trivial
  have hc : ∀ wq, Mod (fun _ => False) w wq → Calls Tryd.prog 36 #[ptrV b, .int .i64 (i : Int)] wq fun e w' => e = .returned (.tuple #[.agg (itr y), .int .i64 0]) ∧ Mod (fun _ => False) wq w' := fun wq hq => heldY_c (HB.mod0 hq) hy
  have hset : ∀ wq, Mod (fun _ => False) w wq → Calls Tryd.prog 44 #[ptrV s, .int .i64 (i : Int), .agg (itr { y with sent := true })] wq fun e w' => e = .returned (.int .i64 0) ∧ BH w0 O b ((conS R).set i (some ({ y with sent := true } : ItR).con)) w' := by
    intro wq hq
    refine fin_set (C := C) (HB.mod0 hq) (fun j hj => ⟨(hT j hj).1, Nat.lt_of_lt_of_le (hT j hj).2 hq.size⟩) (m.then0 hq) hy { y with sent := true } rfl ?_
    have hil : i < (conS R).length := (List.getElem?_eq_some_iff.1 hx).1
    by_cases h0 : y.con.pl = 0
    · refine hperm.trans (((wtg_at hx).trans ?_).trans (wtg_set hil).symm)
      exact .refl _
    · exact keep_perm (node_none (by omega) hperm hx (by simp [nodeOf, h0])).2 hil (if_neg (show ¬ y.con.pl = 0 from h0))
  have HH := Lib.hid (And.intro hset (And.intro hc hc))
  clear HB hperm hT m hx hy hset hc hlen
  go_enter Tryd.func22, Tryd.ntmps22
  go_upto_region 1 with fail
  have Lkb := lt_size kb
  refine wp_pass0 (C := fun _ _ v => v = .tuple #[.agg (itr y), .int .i64 0]) (κ := fun i => [0, 0, 2, 0, 0, 0, 3, 4, 0].getD i 0) [0, 1, 2, 3, 4, 5, 6, 7, 8] (by kernel_rfl) (by kernel_rfl) (fun _ _ d _ _ h => by cases d <;> first | exact h | exact absurd h (hP _ _ _)) ?_
  (refine TD.val0 (v := ?v82) (by simp only [zA, zB, zC]; rfl) rfl ?hw82 (fun w1 => ?hy82) ?hn82; (case hw82 => rfl); (case hy82 => (go_simp; (try with_reducible rfl))); (try simp only [Act.put, zF, zG, zH]))
  (refine TD.val0 (v := ?v83) (by simp only [zA, zB, zC]; rfl) rfl ?hw83 (fun w1 => ?hy83) ?hn83; (case hw83 => rfl); (case hy83 => (go_simp; (try with_reducible rfl))); (try simp only [Act.put, zF, zG, zH]))
  (refine TD.call (f := ?f84) (args := ?r84) (Mod.refl _ _) (by simp only [zA, zB, zC]; rfl) rfl ?hw84 (fun w1 => ?hy84) ?hsp84 ?hn84; (case hw84 => rfl); (case hy84 => (go_simp; (first | with_reducible rfl | (constructor <;> with_reducible rfl)))); (case hsp84 => (intro wq hSq; have kbq := hSq.at kb (fun h => h); exact (HH.out.2.1 wq hSq).mono (fun e w' h => ⟨_, h.1, rfl, h.2⟩))); rintro _ rfl; (try simp only [Act.put, zF, zG, zH]))
  (refine TD.val0 (v := ?v85) (by simp only [zA, zB, zC]; rfl) rfl ?hw85 (fun w1 => ?hy85) ?hn85; (case hw85 => rfl); (case hy85 => (go_simp; (try with_reducible rfl))); (try simp only [Act.put, zF, zG, zH]))
  (refine TD.val0 (v := ?v86) (by simp only [zA, zB, zC]; rfl) rfl ?hw86 (fun w1 => ?hy86) ?hn86; (case hw86 => rfl); (case hy86 => (go_simp; (try with_reducible rfl))); (try simp only [Act.put, zF, zG, zH]))
  (refine TD.val0 (v := ?v87) (by simp only [zA, zB, zC]; rfl) rfl ?hw87 (fun w1 => ?hy87) ?hn87; (case hw87 => rfl); (case hy87 => (go_simp; (try with_reducible rfl))); (try simp only [Act.put, zF, zG, zH]))
  (refine TD.allocB (by simp only [zA, zB, zC]; rfl) rfl ?hw88 rfl rfl alItem (fun p5 hp5 => ?hn88); (case hw88 => rfl); (try simp only [Act.put, zF, zG, zH]))
  (refine TD.storeB (d := ?d89) (T := ?T89) (y := ?y89) (p := ?p89) (b := ?b89) (v := ?v89) (by simp only [zA, zB, zC]; rfl) rfl ?hw89 ?hd89 ?hop89 ?hev89 ?hx89 ?hb89 ?htag89 (fun w1 hb1 => ?hy89) ?hn89; (case hw89 => rfl); (case hd89 => rfl); (case hop89 => rfl); (case hev89 => (simp only [Act.eval, zD, zA, zB, zC, zE]; (try rfl))); (case hx89 => (simp only [Act.eval, zD, zA, zB, zC, zE]; (try rfl))); (case hb89 => first | exact Bx.set_same _ _ _ | (simp only [Bx.set_same]; rfl)); (case hy89 => (go_simp; (try first | with_reducible rfl | (rw [setCell_blk hb1]; rfl)))); (try simp only [Act.put, zF, zG, zH]))
  (refine TD.val0 (v := ?v90) (by simp only [zA, zB, zC]; rfl) rfl ?hw90 (fun w1 => ?hy90) ?hn90; (case hw90 => rfl); (case hy90 => (go_simp; (try with_reducible rfl))); (try simp only [Act.put, zF, zG, zH]))
  refine TD.nil (fun w3 hr => ?_)
  have kb := hr.mod.at kb (fun h => h)
  have kp5 := hr.box p5 _ (by first | exact Bx.set_same _ _ _ | (simp only [Bx.set_same]; rfl)); dsimp only [Value.cells] at kp5; obtain ⟨gp5, kp5⟩ := kp5
  have m3 := hr.mod
  clear hr
  go_upto_region 4 with fail
  have Lkb := lt_size kb
  have Lkp5 := lt_size kp5
  refine wp_pass0 (C := fun _ _ _ => False) (κ := fun i => [0, 5].getD i 0) [0, 1] (by kernel_rfl) (by kernel_rfl) (fun _ _ d _ _ h => by cases d <;> first | exact h | exact absurd h (hP _ _ _)) ?_
  (refine TD.val0 (v := ?v91) (by simp only [zA, zB, zC]; rfl) rfl ?hw91 (fun w1 => ?hy91) ?hn91; (case hw91 => rfl); (case hy91 => (go_simp; (try with_reducible rfl))); (try simp only [Act.put, zF, zG, zH]))
  refine TD.eff (by simp only [zA, zB, zC]; rfl) rfl (fun wE hr => ?_)
  have kb := hr.mod.at0 kb
  have kp5 := hr.mod.at0 kp5
  have mE := hr.mod
  (refine eff_store (X := ?X92) (Y := ?Y92) (w' := ?w92) (by simp only [zA, zB, zC]; rfl) ?hw92 rfl ?hx92 ?hz92 ?hy92 ?hn92; (case hw92 => rfl); (case hx92 => (simp only [Act.eval, zD, zA, zB, zC, zE]; (try rfl))); (case hz92 => (simp only [Act.eval, zD, zA, zB, zC, zE]; (try rfl))); (case hy92 => (go_simp; (try with_reducible rfl))))
  (first | refine TE.nil_set kp5 (fun w4 kp5 mS => ?_) | refine TE.nil_setCell kp5 (fun w4 kp5 mS => ?_))
  have kb := mS.at_ne kb (by omega)
  have m4 := (m3.then0 mE).thenB mS (.inl gp5)
  clear hr mE mS
  rw [set_sent] at kp5
  go_upto_region 5 with fail
  have Lkb := lt_size kb
  have Lkp5 := lt_size kp5
  refine wp_pass (C := fun _ _ _ => False) (κ := fun i => [0, 0, 0, 0, 1, 0, 1, 5, 0].getD i 0) [0, 1, 2, 3, 4, 5, 6, 7, 8] (by kernel_rfl) (by kernel_rfl) (fun _ _ d _ _ h => by cases d <;> first | exact h | exact absurd h (hP _ _ _)) ?_
  (refine TD.val0 (v := ?v93) (by simp only [zA, zB, zC]; rfl) rfl ?hw93 (fun w1 => ?hy93) ?hn93; (case hw93 => rfl); (case hy93 => (go_simp; (try with_reducible rfl))); (try simp only [Act.put, zF, zG, zH]))
  (refine TD.val0 (v := ?v94) (by simp only [zA, zB, zC]; rfl) rfl ?hw94 (fun w1 => ?hy94) ?hn94; (case hw94 => rfl); (case hy94 => (go_simp; (try with_reducible rfl))); (try simp only [Act.put, zF, zG, zH]))
  (refine TD.val0 (v := ?v95) (by simp only [zA, zB, zC]; rfl) rfl ?hw95 (fun w1 => ?hy95) ?hn95; (case hw95 => rfl); (case hy95 => (go_simp; (try with_reducible rfl))); (try simp only [Act.put, zF, zG, zH]))
  (refine TD.val0 (v := ?v96) (by simp only [zA, zB, zC]; rfl) rfl ?hw96 (fun w1 => ?hy96) ?hn96; (case hw96 => rfl); (case hy96 => (go_simp; (try with_reducible rfl))); (try simp only [Act.put, zF, zG, zH]))
  (refine TD.load (v := ?v97) (p := ?p97) (Mod.refl _ _) (by simp only [zA, zB, zC]; rfl) rfl ?hw97 rfl ?hx97 (fun wq hSq => ?hy97) ?hn97; (case hw97 => rfl); (case hx97 => (simp only [Act.eval, zD, zA, zB, zC, zE]; (try rfl))); (case hy97 => (have kbq := hSq.at kb (fun h => h); have kp5q := hSq.at kp5 (fun h => h); go_simp; (try with_reducible rfl))); (try simp only [Act.put, zF, zG, zH]))
  (refine TD.val0 (v := ?v98) (by simp only [zA, zB, zC]; rfl) rfl ?hw98 (fun w1 => ?hy98) ?hn98; (case hw98 => rfl); (case hy98 => (go_simp; (try with_reducible rfl))); (try simp only [Act.put, zF, zG, zH]))
  (refine TD.load (v := ?v99) (p := ?p99) (Mod.refl _ _) (by simp only [zA, zB, zC]; rfl) rfl ?hw99 rfl ?hx99 (fun wq hSq => ?hy99) ?hn99; (case hw99 => rfl); (case hx99 => (simp only [Act.eval, zD, zA, zB, zC, zE]; (try rfl))); (case hy99 => (have kbq := hSq.at kb (fun h => h); have kp5q := hSq.at kp5 (fun h => h); go_simp; (try with_reducible rfl))); (try simp only [Act.put, zF, zG, zH]))
  refine TD.eff (by simp only [zA, zB, zC]; rfl) rfl (fun w5 hr => ?_)
  have kb := hr.mod.at kb (fun h => h)
  have kp5 := hr.mod.at kp5 (fun h => h)
  have hcall := HH.out.1 _ (m4.then0 hr.mod)
  clear hr
  (refine eff_callP (by simp only [zA, zB, zC]; rfl) ?hw101 ?hy101 hcall (fun wn hP => ?hn101); (case hw101 => rfl); (case hy101 => (go_simp; (try (first | with_reducible rfl | (constructor <;> with_reducible rfl))))); (try simp only [Act.put, zF, zG, zH]))
  (refine TE.val0 (v := ?v102) (by simp only [zA, zB, zC]; rfl) ?hw102 (fun w1 => ?hy102) ?hn102; (case hw102 => rfl); (case hy102 => (go_simp; (try with_reducible rfl))); (try simp only [Act.put, zF, zG, zH]))
  refine TE.nil ?_
  have HX := Lib.hid hP
  clear hP hcall
  go_wp2_with fail
  go_ret
  exact ⟨rfl, HX.out⟩
end
end Go.Proofs.YtdeghpmlhcaedaaDoor
/- Buffers: Pop, Find, Parked. -/
namespace Go.Proofs.YtdeghpmlhcaedaaDoor
open Go.RowKit
open Go.ChangeMaps (setBlock)
set_option linter.unusedSimpArgs false
set_option linter.unusedVariables false
attribute [local go_sem ↓] wlItem ldItem stItem wlRk ldRk stRk eqRk eqRk2
attribute [local go_sem] cell_blk frozen_blk one_int one_bool one_ptr one_slice one_map Value.cells rkc_size rkc_all1 itr_size itr_all itr_one itr_one' itr_n itr_prio itr_pl itr_sent itr_n' itr_prio' itr_pl' itr_sent' itr_r zItem_size zItem_all zItem_one
section
variable {w0 w w' ws : World} {O : Nat → Prop} {b : Nat} {S : List (Option It)}
theorem btop_c (H : BH w0 O b S w) {D : List Nd} (hD : D.Perm (wtg 0 S)) (hS : Srt D) : ∃ s h, w.heap[b]? = some (.cells #[ptrV s, ptrV h] 84 (0, 0)) ∧ ∀ wq, Mod (fun _ => False) w wq → Calls Tryd.prog 37 #[ptrV h] wq fun e w' => e = .returned (env (enOf D.head?)) ∧ Mod (fun _ => False) wq w' := by
  obtain ⟨s, h, R, C, Ts, Th, Tr, HB, rfl, hperm, hT, m⟩ := H
  exact ⟨s, h, HB.kb, fun wq hq => topS_c (HB.mod0 hq).hat (hD.trans hperm.symm) hS⟩
theorem bbot_c (H : BH w0 O b S w) {D : List Nd} (hD : D.Perm (wtg 0 S)) (hS : Srt D) : ∃ s h, w.heap[b]? = some (.cells #[ptrV s, ptrV h] 84 (0, 0)) ∧ ∀ wq, Mod (fun _ => False) w wq → Calls Tryd.prog 29 #[ptrV h] wq fun e w' => e = .returned (env (enOf D.getLast?)) ∧ Mod (fun _ => False) wq w' := by
  obtain ⟨s, h, R, C, Ts, Th, Tr, HB, rfl, hperm, hT, m⟩ := H
  exact ⟨s, h, HB.kb, fun wq hq => botS_c (HB.mod0 hq).hat (hD.trans hperm.symm) hS⟩
set_option maxRecDepth 20000 in
set_option maxHeartbeats 3200000 in
theorem bpopN_c (H : BH w0 O b S w) (hw : wtg 0 S = []) : Calls Tryd.prog 15 #[ptrV b] w fun e w' => e = .returned (.tuple #[.int .i64 0, .bool false]) ∧ Mod (fun _ => False) w w' := by
  obtain ⟨s, h, kb, hc⟩ := btop_c H (D := []) (by rw [hw]) .nil
  clear hw
  have HH := Lib.hid (And.intro H hc)
  clear H hc
  go_enter Tryd.func15, Tryd.ntmps15
  go_wp2_with fail
  go_at_call 26
  refine (bthere_c kb).mono ?_
  rintro e w2 ⟨rfl, rfl⟩
  go_upto_region 3 with fail
  have Lkb := lt_size kb
  refine wp_pass0 (C := fun _ _ v => v = .tuple #[.agg (rkc rk0), .int .i64 0, .bool false]) (κ := fun i => [0, 0, 0, 0, 1, 2, 0, 0, 0, 0, 0, 0].getD i 0) [0, 1, 2, 3, 4, 5, 6, 7, 8, 9, 10, 11] (by kernel_rfl) (by kernel_rfl) (fun _ _ d _ _ h => by cases d <;> first | exact h | exact absurd h (hP _ _ _)) ?_
  (refine TD.val0 (v := ?v1) (by simp only [zA, zB, zC]; rfl) rfl ?hw1 (fun w1 => ?hy1) ?hn1; (case hw1 => rfl); (case hy1 => (go_simp; (try with_reducible rfl))); (try simp only [Act.put, zF, zG, zH]))
  (refine TD.val0 (v := ?v2) (by simp only [zA, zB, zC]; rfl) rfl ?hw2 (fun w1 => ?hy2) ?hn2; (case hw2 => rfl); (case hy2 => (go_simp; (try with_reducible rfl))); (try simp only [Act.put, zF, zG, zH]))
  (refine TD.val0 (v := ?v3) (by simp only [zA, zB, zC]; rfl) rfl ?hw3 (fun w1 => ?hy3) ?hn3; (case hw3 => rfl); (case hy3 => (go_simp; (try with_reducible rfl))); (try simp only [Act.put, zF, zG, zH]))
  (refine TD.val0 (v := ?v4) (by simp only [zA, zB, zC]; rfl) rfl ?hw4 (fun w1 => ?hy4) ?hn4; (case hw4 => rfl); (case hy4 => (go_simp; (try with_reducible rfl))); (try simp only [Act.put, zF, zG, zH]))
  (refine TD.load (v := ?v5) (p := ?p5) (Mod.refl _ _) (by simp only [zA, zB, zC]; rfl) rfl ?hw5 rfl ?hx5 (fun wq hSq => ?hy5) ?hn5; (case hw5 => rfl); (case hx5 => (simp only [Act.eval, zD, zA, zB, zC, zE]; (try rfl))); (case hy5 => (have kbq := hSq.at kb (fun h => h); go_simp; (try with_reducible rfl))); (try simp only [Act.put, zF, zG, zH]))
  (refine TD.call (f := ?f6) (args := ?r6) (Mod.refl _ _) (by simp only [zA, zB, zC]; rfl) rfl ?hw6 (fun w1 => ?hy6) ?hsp6 ?hn6; (case hw6 => rfl); (case hy6 => (go_simp; (first | with_reducible rfl | (constructor <;> with_reducible rfl)))); (case hsp6 => (intro wq hSq; have kbq := hSq.at kb (fun h => h); exact (HH.out.2 wq hSq).mono (fun e w' h => ⟨_, h.1, rfl, h.2⟩))); rintro _ rfl; (try simp only [Act.put, zF, zG, zH]))
  (refine TD.val0 (v := ?v7) (by simp only [zA, zB, zC]; rfl) rfl ?hw7 (fun w1 => ?hy7) ?hn7; (case hw7 => rfl); (case hy7 => (go_simp; (try with_reducible rfl))); (try simp only [Act.put, zF, zG, zH]))
  (refine TD.val0 (v := ?v8) (by simp only [zA, zB, zC]; rfl) rfl ?hw8 (fun w1 => ?hy8) ?hn8; (case hw8 => rfl); (case hy8 => (go_simp; (try with_reducible rfl))); (try simp only [Act.put, zF, zG, zH]))
  (refine TD.val0 (v := ?v9) (by simp only [zA, zB, zC]; rfl) rfl ?hw9 (fun w1 => ?hy9) ?hn9; (case hw9 => rfl); (case hy9 => (go_simp; (try with_reducible rfl))); (try simp only [Act.put, zF, zG, zH]))
  (refine TD.val0 (v := ?v10) (by simp only [zA, zB, zC]; rfl) rfl ?hw10 (fun w1 => ?hy10) ?hn10; (case hw10 => rfl); (case hy10 => (go_simp; (try with_reducible rfl))); (try simp only [Act.put, zF, zG, zH]))
  (refine TD.val0 (v := ?v11) (by simp only [zA, zB, zC]; rfl) rfl ?hw11 (fun w1 => ?hy11) ?hn11; (case hw11 => rfl); (case hy11 => (go_simp; (try with_reducible rfl))); (try simp only [Act.put, zF, zG, zH]))
  (refine TD.val0 (v := ?v12) (by simp only [zA, zB, zC]; rfl) rfl ?hw12 (fun w1 => ?hy12) ?hn12; (case hw12 => rfl); (case hy12 => (go_simp; (try with_reducible rfl))); (try simp only [Act.put, zF, zG, zH]))
  refine TD.nil (fun w3 hr => ?_)
  have kb := hr.mod.at kb (fun h => h)
  have m3 := hr.mod
  clear hr
  go_wp2_with fail
  exact bodyPost_ret (results_tmp2 rfl _ _ _) rfl ⟨rfl, m3⟩
set_option maxRecDepth 20000 in
set_option maxHeartbeats 3200000 in
theorem bpopY_c (H : BH w0 O b S w) {D : List Nd} (hD : D.Perm (wtg 0 S)) (hS : Srt D) {i : Nat} {x : It} (hx : S[i]? = some (some x)) (hh : D.head? = some ⟨x.rk, idn i⟩) : Calls Tryd.prog 15 #[ptrV b] w fun e w' => e = .returned (.tuple #[.int .i64 (i : Int), .bool true]) ∧ BH w0 O b (S.set i (some { x with pl := 1 })) w' := by
  have hlen := H.len
  have hil : i < S.length := (List.getElem?_eq_some_iff.1 hx).1
  obtain ⟨s, h, kb, hc⟩ := btop_c H hD hS
  rw [hh] at hc
  have hi : (idn i).toInt = (i : Int) := idn_toInt (by omega)
  have hv : env (enOf (some ⟨x.rk, idn i⟩)) = .tuple #[.agg (rkc x.rk), .int .i64 (i : Int), .bool true] := by
    show env ⟨x.rk, idn i, true⟩ = _
    unfold env
    rw [hi]
  rw [hv] at hc
  have HXX := Lib.hid hx
  clear hD hS hx hh hi hv hlen hil
  have HH := Lib.hid (And.intro H hc)
  clear H hc
  go_enter Tryd.func15, Tryd.ntmps15
  go_wp2_with fail
  go_at_call 26
  refine (bthere_c kb).mono ?_
  rintro e w2 ⟨rfl, rfl⟩
  go_upto_region 3 with fail
  have Lkb := lt_size kb
  refine wp_pass0 (C := fun _ _ v => v = .tuple #[.agg (rkc x.rk), .int .i64 (i : Int), .bool true]) (κ := fun i => [0, 0, 0, 0, 1, 2, 0, 0, 0, 0, 0, 0].getD i 0) [0, 1, 2, 3, 4, 5, 6, 7, 8, 9, 10, 11] (by kernel_rfl) (by kernel_rfl) (fun _ _ d _ _ h => by cases d <;> first | exact h | exact absurd h (hP _ _ _)) ?_
  (refine TD.val0 (v := ?v13) (by simp only [zA, zB, zC]; rfl) rfl ?hw13 (fun w1 => ?hy13) ?hn13; (case hw13 => rfl); (case hy13 => (go_simp; (try with_reducible rfl))); (try simp only [Act.put, zF, zG, zH]))
  (refine TD.val0 (v := ?v14) (by simp only [zA, zB, zC]; rfl) rfl ?hw14 (fun w1 => ?hy14) ?hn14; (case hw14 => rfl); (case hy14 => (go_simp; (try with_reducible rfl))); (try simp only [Act.put, zF, zG, zH]))
  (refine TD.val0 (v := ?v15) (by simp only [zA, zB, zC]; rfl) rfl ?hw15 (fun w1 => ?hy15) ?hn15; (case hw15 => rfl); (case hy15 => (go_simp; (try with_reducible rfl))); (try simp only [Act.put, zF, zG, zH]))
  (refine TD.val0 (v := ?v16) (by simp only [zA, zB, zC]; rfl) rfl ?hw16 (fun w1 => ?hy16) ?hn16; (case hw16 => rfl); (case hy16 => (go_simp; (try with_reducible rfl))); (try simp only [Act.put, zF, zG, zH]))
  (refine TD.load (v := ?v17) (p := ?p17) (Mod.refl _ _) (by simp only [zA, zB, zC]; rfl) rfl ?hw17 rfl ?hx17 (fun wq hSq => ?hy17) ?hn17; (case hw17 => rfl); (case hx17 => (simp only [Act.eval, zD, zA, zB, zC, zE]; (try rfl))); (case hy17 => (have kbq := hSq.at kb (fun h => h); go_simp; (try with_reducible rfl))); (try simp only [Act.put, zF, zG, zH]))
  (refine TD.call (f := ?f18) (args := ?r18) (Mod.refl _ _) (by simp only [zA, zB, zC]; rfl) rfl ?hw18 (fun w1 => ?hy18) ?hsp18 ?hn18; (case hw18 => rfl); (case hy18 => (go_simp; (first | with_reducible rfl | (constructor <;> with_reducible rfl)))); (case hsp18 => (intro wq hSq; have kbq := hSq.at kb (fun h => h); exact (HH.out.2 wq hSq).mono (fun e w' h => ⟨_, h.1, rfl, h.2⟩))); rintro _ rfl; (try simp only [Act.put, zF, zG, zH]))
  (refine TD.val0 (v := ?v19) (by simp only [zA, zB, zC]; rfl) rfl ?hw19 (fun w1 => ?hy19) ?hn19; (case hw19 => rfl); (case hy19 => (go_simp; (try with_reducible rfl))); (try simp only [Act.put, zF, zG, zH]))
  (refine TD.val0 (v := ?v20) (by simp only [zA, zB, zC]; rfl) rfl ?hw20 (fun w1 => ?hy20) ?hn20; (case hw20 => rfl); (case hy20 => (go_simp; (try with_reducible rfl))); (try simp only [Act.put, zF, zG, zH]))
  (refine TD.val0 (v := ?v21) (by simp only [zA, zB, zC]; rfl) rfl ?hw21 (fun w1 => ?hy21) ?hn21; (case hw21 => rfl); (case hy21 => (go_simp; (try with_reducible rfl))); (try simp only [Act.put, zF, zG, zH]))
  (refine TD.val0 (v := ?v22) (by simp only [zA, zB, zC]; rfl) rfl ?hw22 (fun w1 => ?hy22) ?hn22; (case hw22 => rfl); (case hy22 => (go_simp; (try with_reducible rfl))); (try simp only [Act.put, zF, zG, zH]))
  (refine TD.val0 (v := ?v23) (by simp only [zA, zB, zC]; rfl) rfl ?hw23 (fun w1 => ?hy23) ?hn23; (case hw23 => rfl); (case hy23 => (go_simp; (try with_reducible rfl))); (try simp only [Act.put, zF, zG, zH]))
  (refine TD.val0 (v := ?v24) (by simp only [zA, zB, zC]; rfl) rfl ?hw24 (fun w1 => ?hy24) ?hn24; (case hw24 => rfl); (case hy24 => (go_simp; (try with_reducible rfl))); (try simp only [Act.put, zF, zG, zH]))
  refine TD.nil (fun w3 hr => ?_)
  have kb := hr.mod.at kb (fun h => h)
  have m3 := hr.mod
  clear hr
  go_wp2_with fail
  go_at_call 38
  refine (turn_c (HH.out.1.mod0 m3) HXX.out 1).mono ?_
  rintro e w4 ⟨rfl, H4⟩
  have HX := Lib.hid H4
  clear H4
  go_wp2_with fail
  exact bodyPost_ret (results_tmp2 rfl _ _ _) rfl ⟨rfl, HX.out⟩
end
end Go.Proofs.YtdeghpmlhcaedaaDoor
/- Buffers: Find. -/
namespace Go.Proofs.YtdeghpmlhcaedaaDoor
open Go.RowKit
open Go.ChangeMaps (setBlock)
set_option linter.unusedSimpArgs false
set_option linter.unusedVariables false
attribute [local go_sem ↓] wlItem ldItem stItem wlRdy ldRdy stRdy
attribute [local go_sem] cell_blk frozen_blk one_int one_bool one_ptr one_slice one_map Value.cells rkc_size rkc_all1 itr_size itr_all itr_one itr_one' itr_n itr_prio itr_pl itr_sent itr_n' itr_prio' itr_pl' itr_sent' itr_r zItem_size zItem_all zItem_one rdr_size rdr_all rdr_one rdr_one'
theorem NewS.modI {α : Type} {f : α → Array Value} {n m c : Nat} {E : TypeId} {b : Nat} {w w' : World} {a : Option Addr} {l : List α} {S T : Nat → Prop} (h : NewS f n E b w (.slice a m c) l) (hm : Mod S w w') (hi : Inb T a) (hT : ∀ i, T i → ¬ S i) : NewS f n E b w' (.slice a m c) l := by
  refine h.mod hm (fun g hg => hT g ?_)
  rcases h with ⟨e, _⟩ | ⟨g', cur, e, _⟩
  · injection e with e1 _ _
    subst e1
    cases hg
  · injection e with e1 _ _
    subst e1
    cases hg
    exact hi _ _ rfl
section
variable {w0 w w' ws : World} {O : Nat → Prop} {b base : Nat} {S : List (Option It)} {x : RdR}
theorem RdNew.mod {S T : Nat → Prop} (h : RdNew base w x) (hm : Mod S w w') (hi : RdIn T x) (hT : ∀ i, T i → ¬ S i) : RdNew base w' x :=
  ⟨h.b.modI hm hi.b hT, h.sg.modI hm hi.sg hT, h.ks.modI hm hi.ks hT, h.ins.modI hm hi.ins hT, fun y hy => ⟨(h.insB y hy).1.modI hm (hi.insB y hy).1 hT, (h.insB y hy).2.modI hm (hi.insB y hy).2 hT⟩, h.lks.modI hm hi.lks hT, fun y hy => ⟨(h.lksB y hy).1.modI hm (hi.lksB y hy).1 hT, (h.lksB y hy).2.modI hm (hi.lksB y hy).2 hT⟩, h.ro.modI hm hi.ro hT⟩
theorem RdNew.mod0 (h : RdNew base w x) (hm : Mod (fun _ => False) w w') : RdNew base w' x := h.mod hm h.inn (fun _ _ h => h)
theorem RdNew.lower {b' : Nat} (h : RdNew base w x) (hb : b' ≤ base) : RdNew b' w x :=
  ⟨h.b.base hb, h.sg.base hb, h.ks.base hb, h.ins.base hb, fun y hy => ⟨(h.insB y hy).1.base hb, (h.insB y hy).2.base hb⟩, h.lks.base hb, fun y hy => ⟨(h.lksB y hy).1.base hb, (h.lksB y hy).2.base hb⟩, h.ro.base hb⟩
theorem RdNew.th {p : Nat} {C : Array Value} {E : TypeId} (h : RdNew base w x) (hp : p < base) (hm : Mod (fun i => i = p) w w') : RdNew base w' x := h.mod hm h.inn (fun i hi e => by omega)
end
/-- A new packet in memory. -/
def RdL (base : Nat) (c : RdC) (v : Value) : Land := fun T w => ∃ x : RdR, v = .agg (rdr x) ∧ x.con = c ∧ RdNew base w x ∧ RdIn T x
theorem goodRd (base : Nat) (c : RdC) (v : Value) : Good (RdL base c v) where
  cl := fun T w w' h hm => by
    obtain ⟨x, e, hc, hn, hi⟩ := h
    exact ⟨x, e, hc, hn.mod hm hi (fun i hi hn => hn hi), hi⟩
  gr := fun T T' w hT h => by
    obtain ⟨x, e, hc, hn, hi⟩ := h
    exact ⟨x, e, hc, hn, hi.mono hT⟩
theorem freshL {wq : World} {x : RdR} (base : Nat) (hb : base ≤ wq.heap.size) (T : Nat → Prop) (hx : RdOk wq x) (hs : RdSm x.con) : Calls Tryd.prog 27 #[.agg (rdr x)] wq fun e w' => ∃ v, e = .returned v ∧ Mod (fun _ => False) wq w' ∧ RdL base x.con v (Grow T wq w') w' :=
  (fresh_n hx hs).mono fun e w' h => by
    obtain ⟨y, he, hc, hn, hm⟩ := h
    exact ⟨_, he, hm, y, rfl, hc, hn.lower hb, hn.inn.mono (fun i hi => .inr hi)⟩
theorem rd0_ok (w : World) : RdOk w rd0 :=
  ⟨.inl rfl, .inl rfl, .inl rfl, .inl rfl, fun y hy => (by cases hy), .inl rfl, fun y hy => (by cases hy), .inl rfl⟩
theorem rd0_sm : RdSm rd0.con :=
  ⟨by decide, by decide, by decide, by decide, fun y hy => (by cases hy), by decide, fun y hy => (by cases hy), by decide⟩
set_option maxRecDepth 20000 in
set_option maxHeartbeats 3200000 in
theorem find_c {w : World} {bv : Option Addr} {n er : Int} {y : ItR} (hheld : ∀ wq, Mod (fun _ => False) w wq → Calls Tryd.prog 36 #[.pointer bv, .int .i64 n] wq fun e w' => e = .returned (.tuple #[.agg (itr y), .int .i64 er]) ∧ Mod (fun _ => False) wq w') (hok : RdOk w y.r) (hsm : RdSm y.r.con) :
    Calls Tryd.prog 13 #[.pointer bv, .int .i64 n] w fun e w' => ∃ z : ItR, z.con = y.con ∧ RdNew w.heap.size w' z.r ∧ e = .returned (.tuple #[.agg (itr z), .int .i64 er]) ∧ Mod (fun _ => False) w w' := by
  have HH := Lib.hid (And.intro hheld (And.intro hok hsm))
  clear hheld hok hsm
  go_enter Tryd.func13, Tryd.ntmps13
  go_upto_region 0 with fail
  refine wp_pass0 (C := fun _ _ _ => False) (κ := fun i => [3, 0].getD i 0) [0, 1] (by kernel_rfl) (by kernel_rfl) (fun _ _ d _ _ h => by cases d <;> first | exact h | exact absurd h (hP _ _ _)) ?_
  (refine TD.allocB (by simp only [zA, zB, zC]; rfl) rfl ?hw1 rfl rfl alItem (fun p4 hp4 => ?hn1); (case hw1 => rfl); (try simp only [Act.put, zF, zG, zH]))
  (refine TD.val0 (v := ?v2) (by simp only [zA, zB, zC]; rfl) rfl ?hw2 (fun w1 => ?hy2) ?hn2; (case hw2 => rfl); (case hy2 => (go_simp; (try with_reducible rfl))); (try simp only [Act.put, zF, zG, zH]))
  refine TD.nil (fun w1 hr => ?_)
  have kp4 := hr.box p4 _ (by first | exact Bx.set_same _ _ _ | (simp only [Bx.set_same]; rfl)); dsimp only [Value.cells] at kp4; obtain ⟨gp4, kp4⟩ := kp4
  have m1 := hr.mod
  clear hr
  go_upto_region 1 with fail
  have Lkp4 := lt_size kp4
  refine wp_pass0 (C := fun _ _ v => v = .tuple #[.agg (itr y), .int .i64 er]) (κ := fun i => [0, 0, 2, 0, 0, 0, 3, 4, 0].getD i 0) [0, 1, 2, 3, 4, 5, 6, 7, 8] (by kernel_rfl) (by kernel_rfl) (fun _ _ d _ _ h => by cases d <;> first | exact h | exact absurd h (hP _ _ _)) ?_
  (refine TD.val0 (v := ?v3) (by simp only [zA, zB, zC]; rfl) rfl ?hw3 (fun w1 => ?hy3) ?hn3; (case hw3 => rfl); (case hy3 => (go_simp; (try with_reducible rfl))); (try simp only [Act.put, zF, zG, zH]))
  (refine TD.val0 (v := ?v4) (by simp only [zA, zB, zC]; rfl) rfl ?hw4 (fun w1 => ?hy4) ?hn4; (case hw4 => rfl); (case hy4 => (go_simp; (try with_reducible rfl))); (try simp only [Act.put, zF, zG, zH]))
  (refine TD.call (f := ?f5) (args := ?r5) (Mod.refl _ _) (by simp only [zA, zB, zC]; rfl) rfl ?hw5 (fun w1 => ?hy5) ?hsp5 ?hn5; (case hw5 => rfl); (case hy5 => (go_simp; (first | with_reducible rfl | (constructor <;> with_reducible rfl)))); (case hsp5 => (intro wq hSq; have kp4q := hSq.at kp4 (fun h => h); exact (HH.out.1 wq (m1.then0 hSq)).mono (fun e w' h => ⟨_, h.1, rfl, h.2⟩))); rintro _ rfl; (try simp only [Act.put, zF, zG, zH]))
  (refine TD.val0 (v := ?v6) (by simp only [zA, zB, zC]; rfl) rfl ?hw6 (fun w1 => ?hy6) ?hn6; (case hw6 => rfl); (case hy6 => (go_simp; (try with_reducible rfl))); (try simp only [Act.put, zF, zG, zH]))
  (refine TD.val0 (v := ?v7) (by simp only [zA, zB, zC]; rfl) rfl ?hw7 (fun w1 => ?hy7) ?hn7; (case hw7 => rfl); (case hy7 => (go_simp; (try with_reducible rfl))); (try simp only [Act.put, zF, zG, zH]))
  (refine TD.val0 (v := ?v8) (by simp only [zA, zB, zC]; rfl) rfl ?hw8 (fun w1 => ?hy8) ?hn8; (case hw8 => rfl); (case hy8 => (go_simp; (try with_reducible rfl))); (try simp only [Act.put, zF, zG, zH]))
  (refine TD.allocB (by simp only [zA, zB, zC]; rfl) rfl ?hw9 rfl rfl alItem (fun p6 hp6 => ?hn9); (case hw9 => rfl); (try simp only [Act.put, zF, zG, zH]))
  (refine TD.storeB (d := ?d10) (T := ?T10) (y := ?y10) (p := ?p10) (b := ?b10) (v := ?v10) (by simp only [zA, zB, zC]; rfl) rfl ?hw10 ?hd10 ?hop10 ?hev10 ?hx10 ?hb10 ?htag10 (fun w1 hb1 => ?hy10) ?hn10; (case hw10 => rfl); (case hd10 => rfl); (case hop10 => rfl); (case hev10 => (simp only [Act.eval, zD, zA, zB, zC, zE]; (try rfl))); (case hx10 => (simp only [Act.eval, zD, zA, zB, zC, zE]; (try rfl))); (case hb10 => first | exact Bx.set_same _ _ _ | (simp only [Bx.set_same]; rfl)); (case hy10 => (go_simp; (try first | with_reducible rfl | (rw [setCell_blk hb1]; rfl)))); (try simp only [Act.put, zF, zG, zH]))
  (refine TD.val0 (v := ?v11) (by simp only [zA, zB, zC]; rfl) rfl ?hw11 (fun w1 => ?hy11) ?hn11; (case hw11 => rfl); (case hy11 => (go_simp; (try with_reducible rfl))); (try simp only [Act.put, zF, zG, zH]))
  refine TD.nil (fun w2 hr => ?_)
  have kp4 := hr.mod.at kp4 (fun h => h)
  have kp6 := hr.box p6 _ (by first | exact Bx.set_same _ _ _ | (simp only [Bx.set_same]; rfl)); dsimp only [Value.cells] at kp6; obtain ⟨gp6, kp6⟩ := kp6
  have m2 := m1.then0 hr.mod
  have HNE : Hid (p4 ≠ p6 ∧ w.heap.size ≤ p6) := Lib.hid ⟨by omega, by have := m1.size; omega⟩
  clear hr
  go_upto_region 2 with fail
  have Lkp4 := lt_size kp4
  have Lkp6 := lt_size kp6
  refine wp_epass0 (T0 := fun _ => False) (K := fun _ _ => True) (κ := fun i => [0, 0, 6, 0, 6].getD i 0) (υ := fun i => [[], [], [], [], []].getD i []) [0, 1, 2, 3] [4] (by kernel_rfl) (by kernel_rfl) (Good.true).cl (trivial) (fun _ h => h.elim) ?_
  have gK := Good.true
  (refine TG.v0 (v := ?v12) (by simp only [zA, zB, zC]; rfl) rfl ?hw12 (fun w1 => ?hy12) ?hn12; (case hw12 => rfl); (case hy12 => (go_simp; (try with_reducible rfl))); (try simp only [Act.put, zF, zG, zH]))
  (refine TG.load (v := ?v13) (p := ?p13) (by simp only [zA, zB, zC]; rfl) rfl ?hw13 rfl ?hx13 (fun wq hSq => ?hy13) ?hn13; (case hw13 => rfl); (case hx13 => (simp only [Act.eval, zD, zA, zB, zC, zE]; (try rfl))); (case hy13 => (have kp4q := hSq.at kp4 (by intro hT; first | exact hT | exact absurd hT (by assumption) | omega | (simp only at hT; omega)); have kp6q := hSq.at kp6 (by intro hT; first | exact hT | exact absurd hT (by assumption) | omega | (simp only at hT; omega)); go_simp; (try with_reducible rfl))); (try simp only [Act.put, zF, zG, zH]))
  (refine TG.callM (f := ?f14) (args := ?r14) (RdL w.heap.size y.r.con) (goodRd w.heap.size y.r.con) gK (by simp only [zA, zB, zC]; rfl) rfl ?hw14 (fun w1 => ?hy14) (fun T wq kq ltq hSq ub => ?hsp14) ?hn14; (case hw14 => rfl); (case hy14 => (go_simp; (first | with_reducible rfl | (constructor <;> with_reducible rfl)))); (case hsp14 => (have kp4q := hSq.at kp4 (by intro hT; first | exact hT | exact absurd hT (by assumption) | omega | (simp only at hT; omega)); have kp6q := hSq.at kp6 (by intro hT; first | exact hT | exact absurd hT (by assumption) | omega | (simp only at hT; omega)); exact freshL (x := y.r) w.heap.size (m2.then0 hSq).size T (HH.out.2.1.mod0 (m2.then0 hSq)) HH.out.2.2)); rintro v14 ⟨wI, TI, hI⟩; replace gK := gK.and ((goodRd w.heap.size y.r.con) v14); (obtain ⟨_, z0, rfl, _⟩ := hI.k); (try clear hI TI wI); (try simp only [Act.put, zF, zG, zH]))
  (refine TG.v0 (v := ?v15) (by simp only [zA, zB, zC]; rfl) rfl ?hw15 (fun w1 => ?hy15) ?hn15; (case hw15 => rfl); (case hy15 => (go_simp; (try with_reducible rfl))); (try simp only [Act.put, zF, zG, zH]))
  refine TG.nil (fun w3 ⟨TR, hr⟩ => ?_)
  have kp4 := hr.mod.at kp4 (by intro hT; first | exact hT | exact absurd hT (by assumption) | omega | (simp only at hT; omega))
  have kp6 := hr.mod.at kp6 (by intro hT; first | exact hT | exact absurd hT (by assumption) | omega | (simp only at hT; omega))
  clear gK
  obtain ⟨_, z, hz, hzc, hzn, hzi⟩ := hr.k
  rename_i hZ0 _ _
  clear hZ0
  injection hz with hz
  have hT6 : ∀ g, TR g → g ≠ p6 := fun g hg e => (hr.old g (e ▸ Lkp6) hg).elim
  have hT4 : ∀ g, TR g → g ≠ p4 := fun g hg e => (hr.old g (e ▸ Lkp4) hg).elim
  have m3 := m2.then0 hr.mod
  have HZ := Lib.hid (And.intro hzc (And.intro hzn (And.intro hzi (And.intro hT6 hT4))))
  clear hr hzc hzn hzi hT6 hT4
  refine TE.step (by simp only [zA, zB, zC]; rfl) rfl ?_
  (refine eff_store (X := ?X16) (Y := ?Y16) (w' := ?w16) (by simp only [zA, zB, zC]; rfl) ?hw16 rfl ?hx16 ?hz16 ?hy16 ?hn16; (case hw16 => rfl); (case hx16 => (simp only [Act.eval, zD, zA, zB, zC, zE]; (try rfl))); (case hz16 => (simp only [Act.eval, zD, zA, zB, zC, zE]; (try rfl))); (case hy16 => (go_simp; (try with_reducible rfl))))
  (first | refine TE.nil_set kp6 (fun wn kp6 mS => ?_) | refine TE.nil_setCell kp6 (fun wn kp6 mS => ?_))
  have m4 := m3.thenB mS (.inl HNE.out.2)
  have kp4 := mS.at kp4 HNE.out.1
  have hkp : wn.heap[p6]? = some (.cells (itr { y with r := z }) 55 (0, 0)) := by
    have hs := set_r y z
    rw [kp6, ← hs, ← hz]
  have HN := Lib.hid (show RdNew w.heap.size wn z from HZ.out.2.1.mod mS HZ.out.2.2.1 HZ.out.2.2.2.1)
  obtain ⟨y2, hy2⟩ : ∃ y2 : ItR, y2 = { y with r := z } := ⟨_, rfl⟩
  rw [← hy2] at hkp
  have HY2 := Lib.hid hy2
  have M4 := Lib.hid m4
  clear mS kp6 hz hy2 m4 m3 m2 m1
  go_upto_region 3 with fail
  simp only [Act.put]
  have Lkp4 := lt_size kp4
  have Lhkp := lt_size hkp
  refine wp_pass0 (C := fun _ _ _ => False) (κ := fun i => [1, 0, 5, 0].getD i 0) [0, 1, 2, 3] (by kernel_rfl) (by kernel_rfl) (fun _ _ d _ _ h => by cases d <;> first | exact h | exact absurd h (hP _ _ _)) ?_
  (refine TD.load (v := ?v17) (p := ?p17) (Mod.refl _ _) (by simp only [zA, zB, zC]; rfl) rfl ?hw17 rfl ?hx17 (fun wq hSq => ?hy17) ?hn17; (case hw17 => rfl); (case hx17 => (simp only [Act.eval, zD, zA, zB, zC, zE]; (try rfl))); (case hy17 => (have kp4q := hSq.at kp4 (fun h => h); have hkpq := hSq.at hkp (fun h => h); go_simp; (try with_reducible rfl))); (try simp only [Act.put, zF, zG, zH]))
  (refine TD.val0 (v := ?v18) (by simp only [zA, zB, zC]; rfl) rfl ?hw18 (fun w1 => ?hy18) ?hn18; (case hw18 => rfl); (case hy18 => (go_simp; (try with_reducible rfl))); (try simp only [Act.put, zF, zG, zH]))
  refine TD.eff (by simp only [zA, zB, zC]; rfl) rfl (fun w5 hr => ?_)
  have kp4 := hr.mod.at kp4 (fun h => h)
  have hkp := hr.mod.at hkp (fun h => h)
  have m5 := M4.out.then0 hr.mod
  have m45 := hr.mod
  clear hr
  (refine eff_store (X := ?X20) (Y := ?Y20) (w' := ?w20) (by simp only [zA, zB, zC]; rfl) ?hw20 rfl ?hx20 ?hz20 ?hy20 ?hn20; (case hw20 => rfl); (case hx20 => (simp only [Act.eval, zD, zA, zB, zC, zE]; (try rfl))); (case hz20 => (simp only [Act.eval, zD, zA, zB, zC, zE]; (try rfl))); (case hy20 => (go_simp; (try with_reducible rfl))))
  (first | refine TE.mid_set kp4 (fun wn kp4 mS => ?_) | refine TE.mid_setCell kp4 (fun wn kp4 mS => ?_))
  (try simp only [Array.setIfInBounds, zF, zG, zH] at kp4)
  have m6 := m5.thenB mS (.inl gp4)
  have HN6 := Lib.hid (show RdNew w.heap.size wn z from (HN.out.mod0 m45).mod mS HZ.out.2.2.1 HZ.out.2.2.2.2)
  clear mS
  (refine TE.val0 (v := ?v21) (by simp only [zA, zB, zC]; rfl) ?hw21 (fun w1 => ?hy21) ?hn21; (case hw21 => rfl); (case hy21 => (go_simp; (try with_reducible rfl))); (try simp only [Act.put, zF, zG, zH]))
  refine TE.nil ?_
  go_wp2_with fail
  refine bodyPost_ret (results_cell2 (x := .agg (itr y2)) rfl rfl (by rw [ldItem]; simp [kp4, itr_all, itr_size])) rfl ⟨y2, ?_, ?_, rfl, m6⟩
  · rw [HY2.out]
    show (⟨y.n, z.con, y.pl.toNat, y.sent⟩ : It) = ⟨y.n, y.r.con, y.pl.toNat, y.sent⟩
    rw [HZ.out.1]
  · rw [HY2.out]
    exact HN6.out
section
variable {w0 w : World} {O : Nat → Prop} {b : Nat} {S : List (Option It)}
theorem bfindY_c (H : BH w0 O b S w) {i : Nat} {x : It} (hx : S[i]? = some (some x)) : Calls Tryd.prog 13 #[ptrV b, .int .i64 (i : Int)] w fun e w' => ∃ z : ItR, z.con = x ∧ RdNew w.heap.size w' z.r ∧ e = .returned (.tuple #[.agg (itr z), .int .i64 0]) ∧ Mod (fun _ => False) w w' := by
  obtain ⟨s, h, R, C, Ts, Th, Tr, HB, rfl, hperm, hT, m⟩ := H
  obtain ⟨y, hy, rfl⟩ := con_at hx
  exact find_c (fun wq hq => heldY_c (HB.mod0 hq) hy) (HB.rd i y hy).1 (HB.rd i y hy).2.2
theorem bfindN_c (H : BH w0 O b S w) {n : Int} (hn : AwayS S n) : Calls Tryd.prog 13 #[ptrV b, .int .i64 n] w fun e w' => ∃ z : ItR, z.con = it0.con ∧ RdNew w.heap.size w' z.r ∧ e = .returned (.tuple #[.agg (itr z), .int .i64 11]) ∧ Mod (fun _ => False) w w' :=
  find_c (y := it0) (fun wq hq => heldA_c (H.mod0 hq) hn) (rd0_ok w) rd0_sm
end
end Go.Proofs.YtdeghpmlhcaedaaDoor
/- Buffers: New. -/
namespace Go.Proofs.YtdeghpmlhcaedaaDoor
open Go.RowKit
open Go.ChangeMaps (setBlock)
set_option linter.unusedSimpArgs false
set_option linter.unusedVariables false
attribute [local go_sem ↓] wlItem ldItem stItem
attribute [local go_sem] cell_blk frozen_blk one_int one_bool one_ptr one_slice one_map Value.cells
/-- A new heap, in memory made since base. -/
def HpL (base : Nat) (v : Value) : Land := fun T w => ∃ h T', v = ptrV h ∧ HAt h [] T' w ∧ (∀ i, T' i → T i ∧ base ≤ i ∧ i < w.heap.size)
theorem goodHp (base : Nat) (v : Value) : Good (HpL base v) where
  cl := fun T w w' h hm => by
    obtain ⟨h, T', e, hA, hT⟩ := h
    exact ⟨h, T', e, (HAt.good h []).cl T' w w' hA (hm.mono (fun i _ e k => e (hT i k).1)), fun i hi => ⟨(hT i hi).1, (hT i hi).2.1, Nat.lt_of_lt_of_le (hT i hi).2.2 hm.size⟩⟩
  gr := fun T T' w hT h => by
    obtain ⟨h, T'', e, hA, hT'⟩ := h
    exact ⟨h, T'', e, hA, fun i hi => ⟨hT i (hT' i hi).1, (hT' i hi).2⟩⟩
theorem newHp {base : Nat} {wq : World} (hb : base ≤ wq.heap.size) (T : Nat → Prop) : Calls Tryd.prog 25 #[] wq fun e w' => ∃ v, e = .returned v ∧ Mod (fun _ => False) wq w' ∧ HpL base v (Grow T wq w') w' :=
  (new_c wq).mono fun e w' h => by
    obtain ⟨h, he, T', hA, hm, hT⟩ := h
    exact ⟨_, he, hm, h, T', rfl, hA, fun i hi => ⟨.inr (hT i hi), by have := hT i hi; omega, (hT i hi).2⟩⟩
set_option maxRecDepth 20000 in
set_option maxHeartbeats 1600000 in
theorem bnewN_c (w : World) {n : Int} (hn : n < 1 ∨ 4096 < n) : Calls Tryd.prog 8 #[.int .i64 n] w fun e w' => e = .returned (.tuple #[.pointer none, .int .i64 1]) ∧ w' = w := by
  have HN := Lib.hid hn
  clear hn
  go_enter Tryd.func8, Tryd.ntmps8
  go_wp2_with fail
  go_at_call 24
  refine (newN_c w HN.out).mono ?_
  rintro e w' ⟨rfl, rfl⟩
  go_wp2_with fail
  exact bodyPost_ret (results_tmp2 rfl _ _ _) rfl ⟨rfl, rfl⟩
theorem wtg_repl : ∀ (n k : Nat), wtg k (List.replicate n none) = []
  | 0, _ => rfl
  | n + 1, k => wtg_repl n (k + 1)
set_option maxRecDepth 20000 in
set_option maxHeartbeats 1600000 in
theorem bnewY_c (w : World) {n : Nat} (h1 : 1 ≤ n) (h2 : n ≤ 4096) : Calls Tryd.prog 8 #[.int .i64 (n : Int)] w fun e w' => ∃ b, e = .returned (.tuple #[ptrV b, .int .i64 0]) ∧ BH w (fun _ => False) b (List.replicate n none) w' := by
  have HN := Lib.hid (And.intro h1 h2)
  clear h1 h2
  go_enter Tryd.func8, Tryd.ntmps8
  go_wp2_with fail
  go_at_call 24
  refine (newY_c w HN.out.1 HN.out.2).mono ?_
  rintro e w1 ⟨s, g, u, cur, us, rfl, hs, gs, gg, gu, m1⟩
  have HS := Lib.hid (And.intro hs (And.intro gs (And.intro gg (And.intro gu m1))))
  clear hs gs gg gu m1
  have hb1 : ∀ (h : Nat) (w : World), (Instr.build 82 #[(0, ptrV s), (1, ptrV h)]).run Tryd.prog w = .ok (.agg #[ptrV s, ptrV h]) w := fun h w => by kernel_rfl
  have hb2 : ∀ (h : Nat) (w : World), (Instr.build 84 #[(0, .agg #[ptrV s, ptrV h])]).run Tryd.prog w = .ok (.agg #[ptrV s, ptrV h]) w := fun h w => by kernel_rfl
  go_upto_region 4 with fail
  refine wp_gpass0 (T0 := fun _ => False) (K := fun _ _ => True) (κ := fun i => [0, 6, 0, 0, 3, 0, 0].getD i 0) (υ := fun i => [[], [], [], [], [], [], []].getD i []) [0, 1, 2, 3, 4, 5, 6] (by kernel_rfl) (by kernel_rfl) (Good.true).cl (trivial) (fun _ h => h.elim) ?_
  have gK := Good.true
  (refine TG.v0 (v := ?v1) (by simp only [zA, zB, zC]; rfl) rfl ?hw1 (fun w1 => ?hy1) ?hn1; (case hw1 => rfl); (case hy1 => (go_simp; (try with_reducible rfl))); (try simp only [Act.put, zF, zG, zH]))
  (refine TG.callM (f := ?f2) (args := ?r2) (HpL w1.heap.size) (goodHp w1.heap.size) gK (by simp only [zA, zB, zC]; rfl) rfl ?hw2 (fun w1 => ?hy2) (fun T wq kq ltq hSq ub => ?hsp2) ?hn2; (case hw2 => rfl); (case hy2 => (go_simp; (first | with_reducible rfl | (constructor <;> with_reducible rfl)))); (case hsp2 => (exact newHp (base := w1.heap.size) hSq.size T)); rintro v2 ⟨wI, TI, hI⟩; replace gK := gK.and ((goodHp w1.heap.size) v2); (obtain ⟨_, h, Th0, rfl, _⟩ := hI.k); (try clear hI TI wI); (try simp only [Act.put, zF, zG, zH]))
  (refine TG.build (v := ?v3) (ps := ?p3) (by simp only [zA, zB, zC]; rfl) rfl ?hw3 rfl ?hx3 (fun w1 => ?hy3) ?hn3; (case hw3 => rfl); (case hx3 => (simp only [List.map_toArray, List.map_cons, List.map_nil, Act.eval, zD, zA, zB, zC, zE]; (try rfl))); (case hy3 => (rw [(hb1 h)]; (try with_reducible rfl))); (try simp only [Act.put, zF, zG, zH]))
  (refine TG.build (v := ?v4) (ps := ?p4) (by simp only [zA, zB, zC]; rfl) rfl ?hw4 rfl ?hx4 (fun w1 => ?hy4) ?hn4; (case hw4 => rfl); (case hx4 => (simp only [List.map_toArray, List.map_cons, List.map_nil, Act.eval, zD, zA, zB, zC, zE]; (try rfl))); (case hy4 => (rw [(hb2 h)]; (try with_reducible rfl))); (try simp only [Act.put, zF, zG, zH]))
  (refine TG.box (v := ?v5) (by simp only [zA, zB, zC]; rfl) rfl ?hw5 rfl rfl ?hx5 (fun p18 hp18 _ => ?hn5); (case hw5 => rfl); (case hx5 => (simp only [Act.eval, zD, zA, zB, zC, zE]; (try rfl))); (try simp only [Act.put, zF, zG, zH]))
  (refine TG.v0 (v := ?v6) (by simp only [zA, zB, zC]; rfl) rfl ?hw6 (fun w1 => ?hy6) ?hn6; (case hw6 => rfl); (case hy6 => (go_simp; (try with_reducible rfl))); (try simp only [Act.put, zF, zG, zH]))
  (refine TG.v0 (v := ?v7) (by simp only [zA, zB, zC]; rfl) rfl ?hw7 (fun w1 => ?hy7) ?hn7; (case hw7 => rfl); (case hy7 => (go_simp; (try with_reducible rfl))); (try simp only [Act.put, zF, zG, zH]))
  refine TG.nil (fun w2 ⟨TR, hr⟩ => ?_)
  have kp18 := hr.box p18 _ (by first | exact Bx.set_same _ _ _ | (simp only [Bx.set_same]; rfl)); dsimp only [Value.cells] at kp18; obtain ⟨gp18, nTp18, kp18⟩ := kp18
  clear gK
  obtain ⟨_, h', Th, hh, hA, hT⟩ := hr.k
  injection hh with hh
  injection hh with hh
  injection hh with hh
  subst hh
  have m2 := hr.mod
  go_wp2_with fail
  refine bodyPost_ret (results_tmp2 rfl _ _ _) rfl ⟨p18, rfl, s, h, List.replicate n none, [], fun i => i = s ∨ i = g ∨ i = u, Th, fun _ => False, ?_, ?_, ?_, ?_, ?_⟩
  · have hs2 := HS.out.1.mod m2 (fun h => h) (fun h => h) (fun h => h)
    have ls := lt_size HS.out.1.ks
    have lg := lt_size HS.out.1.kg
    have lu := lt_size HS.out.1.ku
    refine ⟨kp18, ⟨g, u, cur, us, hs2, .inl rfl, .inr (.inl rfl), .inr (.inr rfl)⟩, hA, fun i y hy => ?_, fun i hi e => ?_, fun i hi => hi.elim, fun i hi => hi.elim, fun e => ?_, fun e => nTp18 (hT _ e).1, fun h => h⟩
    · obtain ⟨_, e⟩ := List.getElem?_eq_some_iff.1 hy
      rw [List.getElem_replicate] at e
      cases e
    · have := (hT i e).2.1
      rcases hi with rfl | rfl | rfl <;> omega
    · rcases e with e | e | e <;> omega
  · simp [conS]
  · rw [wtg_repl]
  · have ls := lt_size HS.out.1.ks
    have lg := lt_size HS.out.1.kg
    have lu := lt_size HS.out.1.ku
    have hz := m2.size
    have hz1 := HS.out.2.2.2.2.size
    have lp := lt_size kp18
    obtain ⟨_, gs, gg, gu, _⟩ := HS.out
    intro i hi
    rcases hi with (rfl | rfl | rfl) | hi | hi | rfl
    · omega
    · omega
    · omega
    · have := hT i hi; omega
    · exact hi.elim
    · omega
  · exact HS.out.2.2.2.2.then0 m2
end Go.Proofs.YtdeghpmlhcaedaaDoor
