/- Graphs, Put: one edge is drawn (the round of the range over a function). -/
import Derived.Test.YtffcnnogkpdinaaGt
namespace Go.Proofs.Ytffcnnogkpdinaa
open Go.RowKit Go.Shelf
open Go.ChangeMaps (setBlock)
set_option linter.unusedSimpArgs false
set_option linter.unusedVariables false
attribute [local go_sem] Oper.semAt_some one_int one_bool one_ptr one_slice one_map cell_blk frozen_blk Value.cells
/-- While edges are drawn to the node at a. -/
structure EI (g nb sb q : Nat) (L : List An) (a : Nat) (id : Int64) (kb : Nat) (ks : List (Key × Bool)) (N : List (Int64 × Nat)) (S : List (Key × Nat)) (nd0 : Nat → Nr) (sp : Nat → Sr) (b7 p10 : Nat) (E : List An) (tag : Tag) (nd : Nat → Nr) (W : World) : Prop where
  mem : GMem tag W g nb sb (q + 1) (L.map An.a ++ [a]) N S nd sp
  ndp : NdP L nd0 nd a id q kb ks E
  k7 : W.heap[b7]? = some (.cells #[ptrV a] 62 (0, 0))
  kl : W.heap[p10]? = some (.cells #[.int .i64 (lc id E).1] 3 (0, 0))
  hlt : ∀ i, tag i ≠ none → i < W.heap.size
  n7 : tag b7 = none
  nl : tag p10 = none
theorem keeps_of {M : Nat → Prop} {W W' : World} (hm : Mod M W W') (hM : ∀ i, M i → ∃ cs T, W.heap[i]? = some (.cells cs T (0, 0))) : KeepsOthers W W' := ⟨hm.size, fun k o hk ho => hm.at hk (fun h => by
  obtain ⟨cs, T, e⟩ := hM k h
  rw [hk] at e
  cases e
  cases ho)⟩
/-- What an edge may change. -/
def edgeM (tag : Tag) (p10 : Nat) (i : Nat) : Prop := i = p10 ∨ ∃ c r, tag i = some (c, r) ∧ (r = 0 ∨ r = 2)
/-- A slice of pointers that a pass has made. -/
def OwnP (l : List Nat) (v : Value) : Land := fun T w => SlOwn pc 1 62 w 0 v l ∧ ∀ g, v.ownBlock = some g → T g
theorem goodOwnP (l : List Nat) (v : Value) : Good (OwnP l v) where
  cl := fun T w w' h hm => ⟨h.1.mod hm (fun b hb hn => hn (h.2 b hb)), h.2⟩
  gr := fun T T' w hT h => ⟨h.1, fun g hg => hT g (h.2 g hg)⟩
theorem app_ptr {w : World} {l q : List Nat} {c : Nat} {v : Value} {a : Option Addr} {T : Nat → Prop} (hv : OwnP l v T w) (hs : SlAt pc 1 w a q) (hq : l.length + q.length ≤ 1000000000000) : ∃ v' w', (Builtin.append_ #[64, 64] 64 #[v, .slice a q.length c]).run Try.prog w = .ok v' w' ∧ Mod T w w' ∧ OwnP (l ++ q) v' (Grow T w w') w' := by
  obtain ⟨v', w', hap, hO, m, hn⟩ := SlOwn.appendB ptrT (c := c) hv.1 hs hq (by omega) (Nat.zero_le _) 64
  refine ⟨v', w', hap, m.mono (fun i _ e => hv.2 i e), hO, fun g hg => ?_⟩
  rcases hn with h | h
  · rw [hg] at h
    exact .inl (hv.2 g h.symm)
  · rw [hg] at h
    cases h
    exact .inr ⟨Nat.le_refl _, (hO.lt _ hg).2⟩
theorem one_slat {w : World} {p b : Nat} (h : w.heap[p]? = some (.cells #[ptrV b] 62 (0, 0))) : SlAt pc 1 w (some ⟨p, 0, none⟩) [b] := .inr ⟨p, 0, _, _, _, rfl, h, fun i x hx => by
  cases i with
  | zero =>
    simp at hx
    subst hx
    exact ⟨rfl, by simp⟩
  | succ i => simp at hx⟩
theorem app_ptr1 {w : World} {l : List Nat} {p b : Nat} {v : Value} {T : Nat → Prop} (hv : OwnP l v T w) (hs : w.heap[p]? = some (.cells #[ptrV b] 62 (0, 0))) (hq : l.length + 1 ≤ 1000000000000) : ∃ v' w', (Builtin.append_ #[64, 64] 64 #[v, .slice (some ⟨p, 0, none⟩) 1 1]).run Try.prog w = .ok v' w' ∧ Mod T w w' ∧ OwnP (l ++ [b]) v' (Grow T w w') w' := by
  have h := app_ptr (c := 1) hv (one_slat hs) (by rw [List.length_singleton]; exact hq)
  rw [List.length_singleton] at h
  exact h
theorem bsP (b : Nat) : ∀ w, (Instr.buildSlice 64 1 #[(0, ptrV b)]).run Try.prog w = .ok (.slice (some ⟨w.heap.size, 0, none⟩) 1 1) (w.alloc (.cells #[ptrV b] 62)) := fun w => by
  go_simp
theorem stI {w : World} {p i : Nat} {cs : Array Value} {T : TypeId} (h : w.heap[p]? = some (.cells cs T (0, 0))) (hi : i < cs.size) (z : Int) : (Instr.storeAt 3 (.pointer (some ⟨p, i, none⟩)) (.int .i64 z)).run Try.prog w = .ok () (w.setCell ⟨p, i, none⟩ (.int .i64 z)) := by
  have hc : w.cell? ⟨p, i, none⟩ = some cs[i] := by rw [cell_blk, h]; simp [hi]
  have hf : w.frozen? ⟨p, i, none⟩ = some false := by
    rw [frozen_blk, h]
    rfl
  go_simp
set_option maxRecDepth 100000 in
set_option maxHeartbeats 4000000 in
theorem edge_c {g nb sb q : Nat} {L : List An} {a : Nat} {id : Int64} {kb : Nat} {ks : List (Key × Bool)} {N : List (Int64 × Nat)} {S : List (Key × Nat)} {nd0 : Nat → Nr} {sp : Nat → Sr} {b7 p10 : Nat} {E : List An} {tag : Tag} {nd : Nat → Nr} {W : World} (H : EI g nb sb q L a id kb ks N S nd0 sp b7 p10 E tag nd W)
    {b : An} (hb : b ∈ L) (ha : ∀ c ∈ L, c.a ≠ a) (hi : ∀ c ∈ L, c.a = b.a → c = b) (hnd : NdIs (nd0 b.a) b) (hpt : b.pt ≤ 1000000) (hnx : (nd0 b.a).nx.length ≤ 900000000) (hE : E.length ≤ 1000000) (hq : q ≤ 1000000) (u : Nat → Value) {l m : Nat} {Q : Exit → Act → World → Prop} (hL : ¬ LetsOut Q)
    (hQ : ∀ a' W', (∃ tag' nd', EI g nb sb q L a id kb ks N S nd0 sp b7 p10 (E ++ [b]) tag' nd' W' ∧ ∀ i, i < W.heap.size → tag' i = tag i) → Mod (edgeM tag p10) W W' → KeepsOthers W W' → Q .normal a' W') :
    edgeBody.wpIn (Fence.wide.inRound l) m Try.prog Q ⟨(List.toArray (u 0 :: u 1 :: u 2 :: u 3 :: u 4 :: u 5 :: u 6 :: ptrV b7 :: u 8 :: u 9 :: ptrV p10 :: u 11 :: u 12 :: u 13 :: u 14 :: ptrV b.a :: u 16 :: u 17 :: u 18 :: u 19 :: u 20 :: u 21 :: u 22 :: u 23 :: u 24 :: u 25 :: u 26 :: u 27 :: u 28 :: u 29 :: u 30 :: u 31 :: u 32 :: u 33 :: u 34 :: u 35 :: u 36 :: u 37 :: u 38 :: u 39 :: u 40 :: u 41 :: u 42 :: u 43 :: u 44 :: u 45 :: u 46 :: u 47 :: u 48 :: u 49 :: u 50 :: u 51 :: u 52 :: u 53 :: u 54 :: u 55 :: u 56 :: u 57 :: u 58 :: u 59 :: u 60 :: u 61 :: u 62 :: u 63 :: u 64 :: u 65 :: u 66 :: u 67 :: u 68 :: u 69 :: u 70 :: u 71 :: u 72 :: u 73 :: u 74 :: u 75 :: u 76 :: u 77 :: u 78 :: u 79 :: u 80 :: u 81 :: u 82 :: u 83 :: u 84 :: u 85 :: u 86 :: u 87 :: u 88 :: u 89 :: u 90 :: u 91 :: u 92 :: u 93 :: u 94 :: u 95 :: u 96 :: u 97 :: u 98 :: u 99 :: u 100 :: u 101 :: u 102 :: u 103 :: u 104 :: u 105 :: u 106 :: u 107 :: u 108 :: u 109 :: u 110 :: u 111 :: u 112 :: u 113 :: u 114 :: u 115 :: u 116 :: u 117 :: u 118 :: u 119 :: u 120 :: u 121 :: u 122 :: u 123 :: u 124 :: u 125 :: u 126 :: u 127 :: u 128 :: u 129 :: u 130 :: u 131 :: u 132 :: u 133 :: u 134 :: u 135 :: u 136 :: u 137 :: u 138 :: u 139 :: u 140 :: u 141 :: u 142 :: u 143 :: u 144 :: u 145 :: u 146 :: u 147 :: u 148 :: u 149 :: u 150 :: u 151 :: u 152 :: u 153 :: u 154 :: u 155 :: u 156 :: [])), []⟩ W := by
  obtain ⟨v0, hv0⟩ := H.ndp.old b hb
  have hba := ha b hb
  have hX := H.mem.nodes b.a (by simp; exact .inl ⟨b, hb, rfl⟩)
  have hY := H.mem.nodes a (by simp)
  rw [hv0] at hX
  rw [H.ndp.new] at hY
  obtain ⟨i1, i2, i3, i4⟩ := hnd
  have kb1 := hX.c
  have ka1 := hY.c
  have ho := hX.o
  dsimp only at ho
  obtain ⟨ad, c0, e0, -, -, -⟩ := ho.at ptrT
  subst e0
  generalize hln : ((nd0 b.a).nx ++ List.replicate (E.count b) a).length = ln at *
  have hlnb : ln ≤ 901000000 := by
    rw [← hln, List.length_append, List.length_replicate]
    have := List.count_le_length (a := b) (l := E)
    omega
  have HC := Lib.hid H
  have HX := Lib.hid hX
  have HY := Lib.hid hY
  have k7 := H.k7
  have kl := H.kl
  replace kb1 : W.heap[b.a]? = some (.cells #[.int .i64 (nd0 b.a).id.toInt, .int .i64 (nd0 b.a).ch.toInt, .int .i64 ((nd0 b.a).pt : Int), .int .i64 ((nd0 b.a).wt : Int), .slice ad ln c0, .map (some (nd0 b.a).kb)] 66 (0, 0)) := kb1
  replace ka1 : W.heap[a]? = some (.cells #[.int .i64 id.toInt, .int .i64 (lc id E).2.toInt, .int .i64 (q : Int), .int .i64 (E.length : Int), .slice none 0 0, .map (some kb)] 66 (0, 0)) := ka1
  rw [i2, i3] at kb1
  clear H hX hY
  conv => arg 4; whnf
  have nTb : ¬ (Value.slice ad ln c0).ownBlock = some b.a := fun e => by
    have h1 := HX.out.tn _ e
    rw [HX.out.ta] at h1
    cases h1
  have nT7 : ¬ (Value.slice ad ln c0).ownBlock = some b7 := fun e => by
    have h1 := HX.out.tn _ e
    rw [HC.out.n7] at h1
    cases h1
  have nTl : ¬ (Value.slice ad ln c0).ownBlock = some p10 := fun e => by
    have h1 := HX.out.tn _ e
    rw [HC.out.nl] at h1
    cases h1
  have nTa : ¬ (Value.slice ad ln c0).ownBlock = some a := fun e => by
    have h1 := HX.out.tn _ e
    rw [HY.out.ta] at h1
    cases h1
  have n7b : b7 ≠ b.a := fun e => by
    have h1 := HX.out.ta
    rw [← e, HC.out.n7] at h1
    cases h1
  have nlb : p10 ≠ b.a := fun e => by
    have h1 := HX.out.ta
    rw [← e, HC.out.nl] at h1
    cases h1
  have n7a : b7 ≠ a := fun e => by
    have h1 := HY.out.ta
    rw [← e, HC.out.n7] at h1
    cases h1
  have nla : p10 ≠ a := fun e => by
    have h1 := HY.out.ta
    rw [← e, HC.out.nl] at h1
    cases h1
  have n7l : b7 ≠ p10 := ne_of_obj k7 kl (obj_ty (by decide))
  have HP := Lib.hid (And.intro hb (And.intro ha (And.intro hi (And.intro hv0 (And.intro i2 (And.intro i3 (And.intro i4 i1)))))))
  have HQ := Lib.hid hQ
  have HO := Lib.hid ho
  have HL := Lib.hid hln
  clear hb ha hi hv0 i2 i3 i4 i1 hQ hln
  generalize hlx : (nd0 b.a).nx ++ List.replicate (E.count b) a = LX at *
  have HLX := Lib.hid hlx
  clear hlx
  gi_wp2
  have Lkb1 := lt_size kb1
  have Lka1 := lt_size ka1
  have Lk7 := lt_size k7
  have Lkl := lt_size kl
  refine in_epass (T0 := fun i => (Value.slice ad ln c0).ownBlock = some i) (K := OwnP LX (.slice ad ln c0)) (κ := fun i => [0, 0, 0, 0, 0, 0, 3, 6, 0, 0, 6].getD i 0) (υ := fun i => [[], [], [], [], [], [], [], [105], [], [], []].getD i []) [0, 1, 2, 3, 4, 5, 6, 7] [8, 9, 10] (by kernel_rfl) (by kernel_rfl) (by rintro ⟨_, _, h⟩; exact hL ⟨_, _, h⟩) (by kernel_rfl) (goodOwnP LX (.slice ad ln c0)).cl (⟨ho, fun g hg => hg⟩) (fun i hi => (ho.lt i hi).2) ?_
  have gK := goodOwnP LX (.slice ad ln c0)
  (refine TG.v0 (v := ?v1) (by simp only [List.getElem?_toArray, List.getElem?_cons_succ, List.getElem?_cons_zero]; rfl) rfl ?hw1 (fun w1 => ?hy1) ?hn1; (case hw1 => rfl); (case hy1 => (go_simp; (try with_reducible rfl))); (try simp only [Act.put, List.setIfInBounds_toArray, List.set_cons_zero, List.set_cons_succ]))
  (refine TG.v0 (v := ?v2) (by simp only [List.getElem?_toArray, List.getElem?_cons_succ, List.getElem?_cons_zero]; rfl) rfl ?hw2 (fun w1 => ?hy2) ?hn2; (case hw2 => rfl); (case hy2 => (go_simp; (try with_reducible rfl))); (try simp only [Act.put, List.setIfInBounds_toArray, List.set_cons_zero, List.set_cons_succ]))
  (refine TG.v0 (v := ?v3) (by simp only [List.getElem?_toArray, List.getElem?_cons_succ, List.getElem?_cons_zero]; rfl) rfl ?hw3 (fun w1 => ?hy3) ?hn3; (case hw3 => rfl); (case hy3 => (go_simp; (try with_reducible rfl))); (try simp only [Act.put, List.setIfInBounds_toArray, List.set_cons_zero, List.set_cons_succ]))
  (refine TG.v0 (v := ?v4) (by simp only [List.getElem?_toArray, List.getElem?_cons_succ, List.getElem?_cons_zero]; rfl) rfl ?hw4 (fun w1 => ?hy4) ?hn4; (case hw4 => rfl); (case hy4 => (go_simp; (try with_reducible rfl))); (try simp only [Act.put, List.setIfInBounds_toArray, List.set_cons_zero, List.set_cons_succ]))
  (refine TG.load (v := ?v5) (p := ?p5) (by simp only [List.getElem?_toArray, List.getElem?_cons_succ, List.getElem?_cons_zero]; rfl) rfl ?hw5 rfl ?hx5 (fun wq hSq => ?hy5) ?hn5; (case hw5 => rfl); (case hx5 => (simp only [Act.eval, Array.getD_eq_getD_getElem?, List.getElem?_toArray, List.getElem?_cons_succ, List.getElem?_cons_zero, Option.getD_some]; (try rfl))); (case hy5 => (have kb1q := hSq.at kb1 (by intro hT; first | exact hT | exact absurd hT (by assumption) | omega | (simp only at hT; omega)); have ka1q := hSq.at ka1 (by intro hT; first | exact hT | exact absurd hT (by assumption) | omega | (simp only at hT; omega)); have k7q := hSq.at k7 (by intro hT; first | exact hT | exact absurd hT (by assumption) | omega | (simp only at hT; omega)); have klq := hSq.at kl (by intro hT; first | exact hT | exact absurd hT (by assumption) | omega | (simp only at hT; omega)); go_simp; (try with_reducible rfl))); (try simp only [Act.put, List.setIfInBounds_toArray, List.set_cons_zero, List.set_cons_succ]))
  (refine TG.load (v := ?v6) (p := ?p6) (by simp only [List.getElem?_toArray, List.getElem?_cons_succ, List.getElem?_cons_zero]; rfl) rfl ?hw6 rfl ?hx6 (fun wq hSq => ?hy6) ?hn6; (case hw6 => rfl); (case hx6 => (simp only [Act.eval, Array.getD_eq_getD_getElem?, List.getElem?_toArray, List.getElem?_cons_succ, List.getElem?_cons_zero, Option.getD_some]; (try rfl))); (case hy6 => (have kb1q := hSq.at kb1 (by intro hT; first | exact hT | exact absurd hT (by assumption) | omega | (simp only at hT; omega)); have ka1q := hSq.at ka1 (by intro hT; first | exact hT | exact absurd hT (by assumption) | omega | (simp only at hT; omega)); have k7q := hSq.at k7 (by intro hT; first | exact hT | exact absurd hT (by assumption) | omega | (simp only at hT; omega)); have klq := hSq.at kl (by intro hT; first | exact hT | exact absurd hT (by assumption) | omega | (simp only at hT; omega)); go_simp; (try with_reducible rfl))); (try simp only [Act.put, List.setIfInBounds_toArray, List.set_cons_zero, List.set_cons_succ]))
  (refine TG.bslice (by simp only [List.getElem?_toArray, List.getElem?_cons_succ, List.getElem?_cons_zero]; rfl) rfl ?hw7 rfl rfl ?hx7 (bsP a) (fun p105 hp105 _ => ?hn7); (case hw7 => rfl); (case hx7 => (simp only [List.map_toArray, List.map_cons, List.map_nil, Act.eval, Array.getD_eq_getD_getElem?, List.getElem?_toArray, List.getElem?_cons_succ, List.getElem?_cons_zero, Option.getD_some]; (try rfl))); (try simp only [Act.put, List.setIfInBounds_toArray, List.set_cons_zero, List.set_cons_succ]))
  (refine TG.appK (X := ?X8) (Y := ?Y8) (OwnP (LX ++ [a])) (goodOwnP (LX ++ [a])) (by simp only [List.getElem?_toArray, List.getElem?_cons_succ, List.getElem?_cons_zero]; rfl) rfl ?hw8 rfl ?hx8 ?hz8 (fun T wq kq ltq hSq ub => ?hy8) ?hn8; (case hw8 => rfl); (case hx8 => (simp only [Act.eval, Array.getD_eq_getD_getElem?, List.getElem?_toArray, List.getElem?_cons_succ, List.getElem?_cons_zero, Option.getD_some]; (try rfl))); (case hz8 => (simp only [Act.eval, Array.getD_eq_getD_getElem?, List.getElem?_toArray, List.getElem?_cons_succ, List.getElem?_cons_zero, Option.getD_some]; (try rfl))); (case hy8 => (have kb1q := hSq.at kb1 (by intro hT; first | exact hT | exact absurd hT (by assumption) | omega | (simp only at hT; omega)); have ka1q := hSq.at ka1 (by intro hT; first | exact hT | exact absurd hT (by assumption) | omega | (simp only at hT; omega)); have k7q := hSq.at k7 (by intro hT; first | exact hT | exact absurd hT (by assumption) | omega | (simp only at hT; omega)); have klq := hSq.at kl (by intro hT; first | exact hT | exact absurd hT (by assumption) | omega | (simp only at hT; omega)); have kp105 := ub.box (p := p105) (by first | exact Bx.set_same _ _ _ | (simp only [Bx.set_same]; rfl)) (by first | decide | exact List.mem_singleton.2 rfl | simp); dsimp only [Value.cells] at kp105; exact app_ptr1 kq kp105 (by rw [HL.out]; omega))); rintro v8 ⟨wI, TI, hI⟩; replace gK := (goodOwnP (LX ++ [a])) v8; skip; (try clear hI TI wI); (try simp only [Act.put, List.setIfInBounds_toArray, List.set_cons_zero, List.set_cons_succ]))
  refine TG.nil (fun w1 ⟨TR, hr⟩ => ?_)
  have kb1 := hr.mod.at kb1 (by intro hT; first | exact hT | exact absurd hT (by assumption) | omega | (simp only at hT; omega))
  have ka1 := hr.mod.at ka1 (by intro hT; first | exact hT | exact absurd hT (by assumption) | omega | (simp only at hT; omega))
  have k7 := hr.mod.at k7 (by intro hT; first | exact hT | exact absurd hT (by assumption) | omega | (simp only at hT; omega))
  have kl := hr.mod.at kl (by intro hT; first | exact hT | exact absurd hT (by assumption) | omega | (simp only at hT; omega))
  have kp105 := hr.box p105 _ (by first | exact Bx.set_same _ _ _ | (simp only [Bx.set_same]; rfl)); dsimp only [Value.cells] at kp105; obtain ⟨gp105, nTp105, kp105⟩ := kp105
  clear gK
  have hO1 := hr.k.1
  obtain ⟨a6, c6, hv6, _⟩ := hO1.at ptrT
  generalize hn6 : (LX ++ [a]).length = n6 at hv6
  subst hv6
  have nT1 : ∀ i, (Value.slice a6 n6 c6).ownBlock = some i → (Value.slice ad ln c0).ownBlock = some i ∨ W.heap.size ≤ i := fun i hi => by
    rcases Nat.lt_or_ge i W.heap.size with h | h
    · exact .inl (hr.old i h (hr.k.2 i hi))
    · exact .inr h
  have m1 := hr.mod
  have HO1 := Lib.hid (And.intro hO1 (And.intro nT1 hn6))
  have HM1 := Lib.hid m1
  clear hO1 nT1 hr m1 hn6
  (refine TE.val0 (v := ?v9) (by simp only [List.getElem?_toArray, List.getElem?_cons_succ, List.getElem?_cons_zero]; rfl) ?hw9 (fun w1 => ?hy9) ?hn9; (case hw9 => rfl); (case hy9 => (go_simp; (try with_reducible rfl))); (try simp only [Act.put, List.setIfInBounds_toArray, List.set_cons_zero, List.set_cons_succ]))
  (refine TE.val0 (v := ?v10) (by simp only [List.getElem?_toArray, List.getElem?_cons_succ, List.getElem?_cons_zero]; rfl) ?hw10 (fun w1 => ?hy10) ?hn10; (case hw10 => rfl); (case hy10 => (go_simp; (try with_reducible rfl))); (try simp only [Act.put, List.setIfInBounds_toArray, List.set_cons_zero, List.set_cons_succ]))
  refine TE.step (by simp only [List.getElem?_toArray, List.getElem?_cons_succ, List.getElem?_cons_zero]; rfl) rfl ?_
  (refine eff_store (X := ?X11) (Y := ?Y11) (w' := ?w11) (by simp only [List.getElem?_toArray, List.getElem?_cons_succ, List.getElem?_cons_zero]; rfl) ?hw11 rfl ?hx11 ?hz11 ?hy11 ?hn11; (case hw11 => rfl); (case hx11 => (simp only [Act.eval, Array.getD_eq_getD_getElem?, List.getElem?_toArray, List.getElem?_cons_succ, List.getElem?_cons_zero, Option.getD_some]; (try rfl))); (case hz11 => (simp only [Act.eval, Array.getD_eq_getD_getElem?, List.getElem?_toArray, List.getElem?_cons_succ, List.getElem?_cons_zero, Option.getD_some]; (try rfl))); (case hy11 => (go_simp; (try with_reducible rfl))))
  (first | refine TE.nil_set kb1 (fun wn kb1 mS => ?_) | refine TE.nil_setCell kb1 (fun wn kb1 mS => ?_))
  (try simp only [Array.setIfInBounds, List.setIfInBounds_toArray, List.set_cons_zero, List.set_cons_succ] at kb1)
  (try simp only [Act.put, List.setIfInBounds_toArray, List.set_cons_zero, List.set_cons_succ])
  replace kb1 : wn.heap[b.a]? = some (.cells #[.int .i64 (nd0 b.a).id.toInt, .int .i64 b.ch.toInt, .int .i64 (b.pt : Int), .int .i64 ((nd0 b.a).wt : Int), .slice a6 n6 c6, .map (some (nd0 b.a).kb)] 66 (0, 0)) := kb1
  replace ka1 := mS.at_ne ka1 (Ne.symm hba)
  replace k7 := mS.at_ne k7 n7b
  replace kl := mS.at_ne kl nlb
  have m2 : Mod (fun i => i = b.a ∨ (Value.slice ad ln c0).ownBlock = some i) W wn := (HM1.out.mono (fun _ _ e => .inr e)).then mS (fun _ _ e => .inl e)
  have HO2 := Lib.hid (HO1.out.1.mod mS (fun g hg e => by
    rw [e] at hg
    rcases HO1.out.2.1 _ hg with h | h
    · exact nTb h
    · omega))
  have HM2 := Lib.hid m2
  clear mS m2
  gi_wp2
  have mS3 : Mod (fun i => i = a) wn (wn.setCell ⟨a, 3, none⟩ (.int .i64 ((E.length : Int) + 1))) := (Mod.refl _ _).setCell _ (fun _ => rfl)
  have ka3 : (wn.setCell ⟨a, 3, none⟩ (.int .i64 ((E.length : Int) + 1))).heap[a]? = some (.cells #[.int .i64 id.toInt, .int .i64 (lc id E).2.toInt, .int .i64 (q : Int), .int .i64 ((E.length : Int) + 1), .slice none 0 0, .map (some kb)] 66 (0, 0)) := by
    rw [setCell_blk ka1, heap_setBlock _ _ (lt_size ka1)]
    rfl
  generalize wn.setCell ⟨a, 3, none⟩ (.int .i64 ((E.length : Int) + 1)) = w3 at *
  replace kb1 := mS3.at_ne kb1 hba
  replace k7 := mS3.at_ne k7 n7a
  replace kl := mS3.at_ne kl nla
  have HM3 : Hid (Mod (fun i => i = a ∨ i = b.a ∨ (Value.slice ad ln c0).ownBlock = some i) W w3) := Lib.hid ((HM2.out.mono (fun _ _ e => .inr e)).then mS3 (fun _ _ e => .inl e))
  have HO3 := Lib.hid (HO2.out.mod mS3 (fun g hg e => by
    rw [e] at hg
    rcases HO1.out.2.1 _ hg with h | h
    · exact nTa h
    · omega))
  clear mS3
  have fin : ∀ (a' : Act) (w' : World), w'.heap[b.a]? = some (.cells #[.int .i64 (nd0 b.a).id.toInt, .int .i64 b.ch.toInt, .int .i64 (b.pt : Int), .int .i64 ((nd0 b.a).wt : Int), .slice a6 n6 c6, .map (some (nd0 b.a).kb)] 66 (0, 0)) →
      w'.heap[a]? = some (.cells #[.int .i64 id.toInt, .int .i64 (lc id (E ++ [b])).2.toInt, .int .i64 (q : Int), .int .i64 ((E.length : Int) + 1), .slice none 0 0, .map (some kb)] 66 (0, 0)) → w'.heap[b7]? = some (.cells #[ptrV a] 62 (0, 0)) →
      w'.heap[p10]? = some (.cells #[.int .i64 (lc id (E ++ [b])).1] 3 (0, 0)) → SlOwn pc 1 62 w' 0 (.slice a6 n6 c6) (LX ++ [a]) → Mod (fun i => i = p10 ∨ i = a ∨ i = b.a ∨ (Value.slice ad ln c0).ownBlock = some i) W w' → Q .normal a' w' := by
    intro a' w' fb fa f7 fl fo fm
    obtain ⟨hb, ha, hi, hv0, i2, i3, i4, i1⟩ := HP.out
    have hMt : ∀ i c r, tag i = some (c, r) → (i = p10 ∨ i = a ∨ i = b.a ∨ (Value.slice ad ln c0).ownBlock = some i) → (c = a ∧ r = 0) ∨ (c = b.a ∧ (r = 0 ∨ r = 2)) := by
      rintro i c r e (rfl | rfl | rfl | h)
      · rw [HC.out.nl] at e; cases e
      · rw [HY.out.ta] at e; cases e; exact .inl ⟨rfl, rfl⟩
      · rw [HX.out.ta] at e; cases e; exact .inr ⟨rfl, .inl rfl⟩
      · rw [HX.out.tn i h] at e; cases e; exact .inr ⟨rfl, .inr rfl⟩
    have hT : ∀ i, i < W.heap.size → (if W.heap.size ≤ i ∧ (Value.slice a6 n6 c6).ownBlock = some i then some (b.a, 2) else tag i) = tag i := fun i hi => by rw [if_neg (by omega)]
    have hkb : ∀ {c x es cl}, tag c = some (x, 1) → W.heap[c]? = some (.map es cl) → w'.heap[c]? = some (.map es cl) := fun e hk => fm.at hk (fun h => by
      rcases hMt _ _ _ e h with ⟨_, h⟩ | ⟨_, h | h⟩ <;> cases h)
    refine HQ.out a' w' ⟨fun i => if W.heap.size ≤ i ∧ (Value.slice a6 n6 c6).ownBlock = some i then some (b.a, 2) else tag i, _, ⟨HC.out.mem.nds fm (fun i c r e h => ?_) hT (fun c hc => ?_), HC.out.ndp.edge hb ha hi (.slice a6 n6 c6), f7, fl, fun i hi => ?_, ?_, ?_⟩, hT⟩ (fm.mono fun i _ h => ?_) (keeps_of fm fun i h => ?_)
    · rcases hMt i c r e h with ⟨_, h⟩ | ⟨_, h | h⟩ <;> omega
    · by_cases e1 : c = a
      · rw [e1, upd_same, HC.out.ndp.new]
        obtain ⟨es, cl, hk, M'⟩ := HY.out.k
        exact ⟨fa, SlOwn.nil _ _, ⟨es, cl, hkb HY.out.tk hk, M'⟩, (hT _ Lka1).trans HY.out.ta, (hT _ (lt_size hk)).trans HY.out.tk, fun g hg => (by cases hg)⟩
      · rw [upd_ne _ _ e1]
        by_cases e2 : c = b.a
        · rw [e2, upd_same, hv0]
          dsimp only
          obtain ⟨es, cl, hk, M'⟩ := HX.out.k
          refine ⟨?_, fo, ⟨es, cl, hkb HX.out.tk hk, M'⟩, (hT _ Lkb1).trans HX.out.ta, (hT _ (lt_size hk)).trans HX.out.tk, fun g hg => ?_⟩
          · rw [fb, ← i2, ← i3]
          · by_cases h : W.heap.size ≤ g
            · simp only [if_pos (And.intro h hg)]
            · rcases HO1.out.2.1 g hg with h1 | h1
              · rw [hT g (by omega)]
                exact HX.out.tn g h1
              · exact absurd h1 h
        · rw [upd_ne _ _ e2]
          refine (HC.out.mem.nodes c hc).mod fm (fun i r e h3 h => ?_) hT
          rcases hMt i c r e h with ⟨h, _⟩ | ⟨h, _⟩
          · exact e1 h
          · exact e2 h
    · by_cases h : W.heap.size ≤ i ∧ (Value.slice a6 n6 c6).ownBlock = some i
      · exact (fo.lt _ h.2).2
      · simp only [if_neg h] at hi
        exact Nat.lt_of_lt_of_le (HC.out.hlt i hi) fm.size
    · rw [hT _ Lk7]
      exact HC.out.n7
    · rw [hT _ Lkl]
      exact HC.out.nl
    · rcases h with h | h | h | h
      · exact .inl h
      · exact .inr ⟨a, 0, by rw [h]; exact HY.out.ta, .inl rfl⟩
      · exact .inr ⟨b.a, 0, by rw [h]; exact HX.out.ta, .inl rfl⟩
      · exact .inr ⟨b.a, 2, HX.out.tn i h, .inr rfl⟩
    · rcases h with h | h | h | h
      · rw [h]; exact ⟨_, _, HC.out.kl⟩
      · rw [h]; exact ⟨_, _, HY.out.c⟩
      · rw [h]; exact ⟨_, _, HX.out.c⟩
      · obtain ⟨cur, hk⟩ := own_block ho h
        exact ⟨_, _, hk⟩
  have HF := Lib.hid fin
  clear fin
  by_cases hgt : (lc id E).1 < (b.pt : Int)
  · have hdt := decide_eq_true hgt
    have Lkb1 := lt_size kb1
    have Lka3 := lt_size ka3
    have Lk7 := lt_size k7
    have Lkl := lt_size kl
    refine in_gpass (T0 := fun _ => False) (K := fun _ _ => True) (κ := fun i => [0, 0, 0, 0, 0, 0].getD i 0) (υ := fun i => [[], [], [], [], [], []].getD i []) [0, 1, 2, 3, 4, 5] (by kernel_rfl) (by kernel_rfl) (by rintro ⟨_, _, h⟩; exact hL ⟨_, _, h⟩) (by kernel_rfl) (Good.true).cl (trivial) (fun _ h => h.elim) ?_
    have gK := Good.true
    (refine TG.v0 (v := ?v12) (by simp only [List.getElem?_toArray, List.getElem?_cons_succ, List.getElem?_cons_zero]; rfl) rfl ?hw12 (fun w1 => ?hy12) ?hn12; (case hw12 => rfl); (case hy12 => (go_simp; (try with_reducible rfl))); (try simp only [Act.put, List.setIfInBounds_toArray, List.set_cons_zero, List.set_cons_succ]))
    (refine TG.v0 (v := ?v13) (by simp only [List.getElem?_toArray, List.getElem?_cons_succ, List.getElem?_cons_zero]; rfl) rfl ?hw13 (fun w1 => ?hy13) ?hn13; (case hw13 => rfl); (case hy13 => (go_simp; (try with_reducible rfl))); (try simp only [Act.put, List.setIfInBounds_toArray, List.set_cons_zero, List.set_cons_succ]))
    (refine TG.v0 (v := ?v14) (by simp only [List.getElem?_toArray, List.getElem?_cons_succ, List.getElem?_cons_zero]; rfl) rfl ?hw14 (fun w1 => ?hy14) ?hn14; (case hw14 => rfl); (case hy14 => (go_simp; (try with_reducible rfl))); (try simp only [Act.put, List.setIfInBounds_toArray, List.set_cons_zero, List.set_cons_succ]))
    (refine TG.load (v := ?v15) (p := ?p15) (by simp only [List.getElem?_toArray, List.getElem?_cons_succ, List.getElem?_cons_zero]; rfl) rfl ?hw15 rfl ?hx15 (fun wq hSq => ?hy15) ?hn15; (case hw15 => rfl); (case hx15 => (simp only [Act.eval, Array.getD_eq_getD_getElem?, List.getElem?_toArray, List.getElem?_cons_succ, List.getElem?_cons_zero, Option.getD_some]; (try rfl))); (case hy15 => (have kb1q := hSq.at kb1 (by intro hT; first | exact hT | exact absurd hT (by assumption) | omega | (simp only at hT; omega)); have ka3q := hSq.at ka3 (by intro hT; first | exact hT | exact absurd hT (by assumption) | omega | (simp only at hT; omega)); have k7q := hSq.at k7 (by intro hT; first | exact hT | exact absurd hT (by assumption) | omega | (simp only at hT; omega)); have klq := hSq.at kl (by intro hT; first | exact hT | exact absurd hT (by assumption) | omega | (simp only at hT; omega)); go_simp; (try with_reducible rfl))); (try simp only [Act.put, List.setIfInBounds_toArray, List.set_cons_zero, List.set_cons_succ]))
    (refine TG.load (v := ?v16) (p := ?p16) (by simp only [List.getElem?_toArray, List.getElem?_cons_succ, List.getElem?_cons_zero]; rfl) rfl ?hw16 rfl ?hx16 (fun wq hSq => ?hy16) ?hn16; (case hw16 => rfl); (case hx16 => (simp only [Act.eval, Array.getD_eq_getD_getElem?, List.getElem?_toArray, List.getElem?_cons_succ, List.getElem?_cons_zero, Option.getD_some]; (try rfl))); (case hy16 => (have kb1q := hSq.at kb1 (by intro hT; first | exact hT | exact absurd hT (by assumption) | omega | (simp only at hT; omega)); have ka3q := hSq.at ka3 (by intro hT; first | exact hT | exact absurd hT (by assumption) | omega | (simp only at hT; omega)); have k7q := hSq.at k7 (by intro hT; first | exact hT | exact absurd hT (by assumption) | omega | (simp only at hT; omega)); have klq := hSq.at kl (by intro hT; first | exact hT | exact absurd hT (by assumption) | omega | (simp only at hT; omega)); go_simp; (try with_reducible rfl))); (try simp only [Act.put, List.setIfInBounds_toArray, List.set_cons_zero, List.set_cons_succ]))
    (refine TG.v0 (v := ?v17) (by simp only [List.getElem?_toArray, List.getElem?_cons_succ, List.getElem?_cons_zero]; rfl) rfl ?hw17 (fun w1 => ?hy17) ?hn17; (case hw17 => rfl); (case hy17 => (go_simp; (try with_reducible rfl))); (try simp only [Act.put, List.setIfInBounds_toArray, List.set_cons_zero, List.set_cons_succ]))
    refine TG.nil (fun w4 ⟨TR, hr⟩ => ?_)
    have kb1 := hr.mod.at kb1 (by intro hT; first | exact hT | exact absurd hT (by assumption) | omega | (simp only at hT; omega))
    have ka3 := hr.mod.at ka3 (by intro hT; first | exact hT | exact absurd hT (by assumption) | omega | (simp only at hT; omega))
    have k7 := hr.mod.at k7 (by intro hT; first | exact hT | exact absurd hT (by assumption) | omega | (simp only at hT; omega))
    have kl := hr.mod.at kl (by intro hT; first | exact hT | exact absurd hT (by assumption) | omega | (simp only at hT; omega))
    clear gK
    have hle : lc id (E ++ [b]) = ((b.pt : Int), b.ch) := by rw [lc_snoc]; unfold lcS; rw [if_pos hgt]
    have HM4 := Lib.hid (HM3.out.then0 hr.mod)
    have HO4 := Lib.hid (HO3.out.mod0 hr.mod)
    have HLE := Lib.hid hle
    clear hle hr hgt hdt
    gi_wp2
    have Lkb1 := lt_size kb1
    have Lk7 := lt_size k7
    refine in_gpass (T0 := fun i => i = p10 ∨ i = a) (K := fun T w => (T p10 ∧ w.heap[p10]? = some (.cells #[.int .i64 (lc id E).1] 3 (0, 0))) ∧ (T a ∧ w.heap[a]? = some (.cells #[.int .i64 id.toInt, .int .i64 (lc id E).2.toInt, .int .i64 (q : Int), .int .i64 ((E.length : Int) + 1), .slice none 0 0, .map (some kb)] 66 (0, 0)))) (κ := fun i => [0, 0, 0, 0, 0, 0, 0, 0, 0, 6, 0, 0, 6].getD i 0) (υ := fun i => [[], [], [], [], [], [], [], [], [], [], [], [], []].getD i []) [0, 1, 2, 3, 4, 5, 6, 7, 8, 9, 10, 11, 12] (by kernel_rfl) (by kernel_rfl) (by rintro ⟨_, _, h⟩; exact hL ⟨_, _, h⟩) (by kernel_rfl) ((Good.at p10 (.cells #[.int .i64 (lc id E).1] 3 (0, 0))).and (Good.at a (.cells #[.int .i64 id.toInt, .int .i64 (lc id E).2.toInt, .int .i64 (q : Int), .int .i64 ((E.length : Int) + 1), .slice none 0 0, .map (some kb)] 66 (0, 0)))).cl (⟨⟨.inl rfl, kl⟩, .inr rfl, ka3⟩) (fun i hi => hi.elim (fun e => e ▸ lt_size kl) (fun e => e ▸ lt_size ka3)) ?_
    have gK := (Good.at p10 (.cells #[.int .i64 (lc id E).1] 3 (0, 0))).and (Good.at a (.cells #[.int .i64 id.toInt, .int .i64 (lc id E).2.toInt, .int .i64 (q : Int), .int .i64 ((E.length : Int) + 1), .slice none 0 0, .map (some kb)] 66 (0, 0)))
    (refine TG.load (v := ?v18) (p := ?p18) (by simp only [List.getElem?_toArray, List.getElem?_cons_succ, List.getElem?_cons_zero]; rfl) rfl ?hw18 rfl ?hx18 (fun wq hSq => ?hy18) ?hn18; (case hw18 => rfl); (case hx18 => (simp only [Act.eval, Array.getD_eq_getD_getElem?, List.getElem?_toArray, List.getElem?_cons_succ, List.getElem?_cons_zero, Option.getD_some]; (try rfl))); (case hy18 => (have kb1q := hSq.at kb1 (by intro hT; first | exact hT | exact absurd hT (by assumption) | omega | (simp only at hT; omega)); have k7q := hSq.at k7 (by intro hT; first | exact hT | exact absurd hT (by assumption) | omega | (simp only at hT; omega)); go_simp; (try with_reducible rfl))); (try simp only [Act.put, List.setIfInBounds_toArray, List.set_cons_zero, List.set_cons_succ]))
    (refine TG.v0 (v := ?v19) (by simp only [List.getElem?_toArray, List.getElem?_cons_succ, List.getElem?_cons_zero]; rfl) rfl ?hw19 (fun w1 => ?hy19) ?hn19; (case hw19 => rfl); (case hy19 => (go_simp; (try with_reducible rfl))); (try simp only [Act.put, List.setIfInBounds_toArray, List.set_cons_zero, List.set_cons_succ]))
    (refine TG.v0 (v := ?v20) (by simp only [List.getElem?_toArray, List.getElem?_cons_succ, List.getElem?_cons_zero]; rfl) rfl ?hw20 (fun w1 => ?hy20) ?hn20; (case hw20 => rfl); (case hy20 => (go_simp; (try with_reducible rfl))); (try simp only [Act.put, List.setIfInBounds_toArray, List.set_cons_zero, List.set_cons_succ]))
    (refine TG.v0 (v := ?v21) (by simp only [List.getElem?_toArray, List.getElem?_cons_succ, List.getElem?_cons_zero]; rfl) rfl ?hw21 (fun w1 => ?hy21) ?hn21; (case hw21 => rfl); (case hy21 => (go_simp; (try with_reducible rfl))); (try simp only [Act.put, List.setIfInBounds_toArray, List.set_cons_zero, List.set_cons_succ]))
    (refine TG.load (v := ?v22) (p := ?p22) (by simp only [List.getElem?_toArray, List.getElem?_cons_succ, List.getElem?_cons_zero]; rfl) rfl ?hw22 rfl ?hx22 (fun wq hSq => ?hy22) ?hn22; (case hw22 => rfl); (case hx22 => (simp only [Act.eval, Array.getD_eq_getD_getElem?, List.getElem?_toArray, List.getElem?_cons_succ, List.getElem?_cons_zero, Option.getD_some]; (try rfl))); (case hy22 => (have kb1q := hSq.at kb1 (by intro hT; first | exact hT | exact absurd hT (by assumption) | omega | (simp only at hT; omega)); have k7q := hSq.at k7 (by intro hT; first | exact hT | exact absurd hT (by assumption) | omega | (simp only at hT; omega)); go_simp; (try with_reducible rfl))); (try simp only [Act.put, List.setIfInBounds_toArray, List.set_cons_zero, List.set_cons_succ]))
    (refine TG.v0 (v := ?v23) (by simp only [List.getElem?_toArray, List.getElem?_cons_succ, List.getElem?_cons_zero]; rfl) rfl ?hw23 (fun w1 => ?hy23) ?hn23; (case hw23 => rfl); (case hy23 => (go_simp; (try with_reducible rfl))); (try simp only [Act.put, List.setIfInBounds_toArray, List.set_cons_zero, List.set_cons_succ]))
    (refine TG.v0 (v := ?v24) (by simp only [List.getElem?_toArray, List.getElem?_cons_succ, List.getElem?_cons_zero]; rfl) rfl ?hw24 (fun w1 => ?hy24) ?hn24; (case hw24 => rfl); (case hy24 => (go_simp; (try with_reducible rfl))); (try simp only [Act.put, List.setIfInBounds_toArray, List.set_cons_zero, List.set_cons_succ]))
    (refine TG.v0 (v := ?v25) (by simp only [List.getElem?_toArray, List.getElem?_cons_succ, List.getElem?_cons_zero]; rfl) rfl ?hw25 (fun w1 => ?hy25) ?hn25; (case hw25 => rfl); (case hy25 => (go_simp; (try with_reducible rfl))); (try simp only [Act.put, List.setIfInBounds_toArray, List.set_cons_zero, List.set_cons_succ]))
    (refine TG.load (v := ?v26) (p := ?p26) (by simp only [List.getElem?_toArray, List.getElem?_cons_succ, List.getElem?_cons_zero]; rfl) rfl ?hw26 rfl ?hx26 (fun wq hSq => ?hy26) ?hn26; (case hw26 => rfl); (case hx26 => (simp only [Act.eval, Array.getD_eq_getD_getElem?, List.getElem?_toArray, List.getElem?_cons_succ, List.getElem?_cons_zero, Option.getD_some]; (try rfl))); (case hy26 => (have kb1q := hSq.at kb1 (by intro hT; first | exact hT | exact absurd hT (by assumption) | omega | (simp only at hT; omega)); have k7q := hSq.at k7 (by intro hT; first | exact hT | exact absurd hT (by assumption) | omega | (simp only at hT; omega)); go_simp; (try with_reducible rfl))); (try simp only [Act.put, List.setIfInBounds_toArray, List.set_cons_zero, List.set_cons_succ]))
    (refine TG.storeO (X := ?X27) (Y := ?Y27) (fun T w => (T p10 ∧ w.heap[p10]? = some (.cells #[.int .i64 (b.pt : Int)] 3 (0, 0))) ∧ (T a ∧ w.heap[a]? = some (.cells #[.int .i64 id.toInt, .int .i64 (lc id E).2.toInt, .int .i64 (q : Int), .int .i64 ((E.length : Int) + 1), .slice none 0 0, .map (some kb)] 66 (0, 0)))) ((Good.at p10 (.cells #[.int .i64 (b.pt : Int)] 3 (0, 0))).and (Good.at a (.cells #[.int .i64 id.toInt, .int .i64 (lc id E).2.toInt, .int .i64 (q : Int), .int .i64 ((E.length : Int) + 1), .slice none 0 0, .map (some kb)] 66 (0, 0)))) (by simp only [List.getElem?_toArray, List.getElem?_cons_succ, List.getElem?_cons_zero]; rfl) rfl ?hw27 rfl rfl ?hx27 ?hz27 (fun T wq kq => ?hy27) (fun _ => ?hn27); (case hw27 => rfl); (case hx27 => (simp only [Act.eval, Array.getD_eq_getD_getElem?, List.getElem?_toArray, List.getElem?_cons_succ, List.getElem?_cons_zero, Option.getD_some]; (try rfl))); (case hz27 => (simp only [Act.eval, Array.getD_eq_getD_getElem?, List.getElem?_toArray, List.getElem?_cons_succ, List.getElem?_cons_zero, Option.getD_some]; (try rfl))); (case hy27 => (obtain ⟨⟨k1, k2⟩, k3, k4⟩ := kq; exact ⟨_, stI k2 (by simp) _, (Mod.refl _ _).setCell _ (fun _ => k1), ⟨k1, by rw [setCell_blk k2, heap_setBlock _ _ (lt_size k2)]; rfl⟩, k3, by rw [setCell_blk k2, heap_setBlock_ne _ _ (Ne.symm nla)]; exact k4⟩)); replace gK := ((Good.at p10 (.cells #[.int .i64 (b.pt : Int)] 3 (0, 0))).and (Good.at a (.cells #[.int .i64 id.toInt, .int .i64 (lc id E).2.toInt, .int .i64 (q : Int), .int .i64 ((E.length : Int) + 1), .slice none 0 0, .map (some kb)] 66 (0, 0)))); (try simp only [Act.put, List.setIfInBounds_toArray, List.set_cons_zero, List.set_cons_succ]))
    (refine TG.v0 (v := ?v28) (by simp only [List.getElem?_toArray, List.getElem?_cons_succ, List.getElem?_cons_zero]; rfl) rfl ?hw28 (fun w1 => ?hy28) ?hn28; (case hw28 => rfl); (case hy28 => (go_simp; (try with_reducible rfl))); (try simp only [Act.put, List.setIfInBounds_toArray, List.set_cons_zero, List.set_cons_succ]))
    (refine TG.v0 (v := ?v29) (by simp only [List.getElem?_toArray, List.getElem?_cons_succ, List.getElem?_cons_zero]; rfl) rfl ?hw29 (fun w1 => ?hy29) ?hn29; (case hw29 => rfl); (case hy29 => (go_simp; (try with_reducible rfl))); (try simp only [Act.put, List.setIfInBounds_toArray, List.set_cons_zero, List.set_cons_succ]))
    (refine TG.storeO (X := ?X30) (Y := ?Y30) (fun T w => (T p10 ∧ w.heap[p10]? = some (.cells #[.int .i64 (b.pt : Int)] 3 (0, 0))) ∧ (T a ∧ w.heap[a]? = some (.cells #[.int .i64 id.toInt, .int .i64 b.ch.toInt, .int .i64 (q : Int), .int .i64 ((E.length : Int) + 1), .slice none 0 0, .map (some kb)] 66 (0, 0)))) ((Good.at p10 (.cells #[.int .i64 (b.pt : Int)] 3 (0, 0))).and (Good.at a (.cells #[.int .i64 id.toInt, .int .i64 b.ch.toInt, .int .i64 (q : Int), .int .i64 ((E.length : Int) + 1), .slice none 0 0, .map (some kb)] 66 (0, 0)))) (by simp only [List.getElem?_toArray, List.getElem?_cons_succ, List.getElem?_cons_zero]; rfl) rfl ?hw30 rfl rfl ?hx30 ?hz30 (fun T wq kq => ?hy30) (fun _ => ?hn30); (case hw30 => rfl); (case hx30 => (simp only [Act.eval, Array.getD_eq_getD_getElem?, List.getElem?_toArray, List.getElem?_cons_succ, List.getElem?_cons_zero, Option.getD_some]; (try rfl))); (case hz30 => (simp only [Act.eval, Array.getD_eq_getD_getElem?, List.getElem?_toArray, List.getElem?_cons_succ, List.getElem?_cons_zero, Option.getD_some]; (try rfl))); (case hy30 => (obtain ⟨⟨k1, k2⟩, k3, k4⟩ := kq; exact ⟨_, stI k4 (by simp) _, (Mod.refl _ _).setCell _ (fun _ => k3), ⟨k1, by rw [setCell_blk k4, heap_setBlock_ne _ _ nla]; exact k2⟩, k3, by rw [setCell_blk k4, heap_setBlock _ _ (lt_size k4)]; rfl⟩)); replace gK := ((Good.at p10 (.cells #[.int .i64 (b.pt : Int)] 3 (0, 0))).and (Good.at a (.cells #[.int .i64 id.toInt, .int .i64 b.ch.toInt, .int .i64 (q : Int), .int .i64 ((E.length : Int) + 1), .slice none 0 0, .map (some kb)] 66 (0, 0)))); (try simp only [Act.put, List.setIfInBounds_toArray, List.set_cons_zero, List.set_cons_succ]))
    refine TG.nil (fun w5 ⟨TR, hr⟩ => ?_)
    have kb1 := hr.mod.at kb1 (by intro hT; first | exact hT | exact absurd hT (by assumption) | omega | (simp only at hT; omega))
    have k7 := hr.mod.at k7 (by intro hT; first | exact hT | exact absurd hT (by assumption) | omega | (simp only at hT; omega))
    clear gK
    obtain ⟨⟨_, f1⟩, _, f2⟩ := hr.k
    have hm5 : Mod (fun i => i = p10 ∨ i = a) w4 w5 := hr.mod
    have HF5 : Hid (SlOwn pc 1 62 w5 0 (.slice a6 n6 c6) (LX ++ [a]) ∧ Mod (fun i => i = p10 ∨ i = a ∨ i = b.a ∨ (Value.slice ad ln c0).ownBlock = some i) W w5) := Lib.hid ⟨HO4.out.mod hm5 (fun g hg e => by
      rcases HO1.out.2.1 g hg with h | h
      · rcases e with e | e
        · rw [e] at h; exact nTl h
        · rw [e] at h; exact nTa h
      · omega), (HM4.out.mono (fun _ _ e => .inr e)).then hm5 (fun _ _ e => e.elim .inl (fun e => .inr (.inl e)))⟩
    clear hr hm5
    gi_wp2
    exact HF.out _ _ kb1 (by rw [HLE.out]; exact f2) k7 (by rw [HLE.out]; exact f1) HF5.out.1 HF5.out.2
  · have hdt := decide_eq_false hgt
    have Lkb1 := lt_size kb1
    have Lka3 := lt_size ka3
    have Lk7 := lt_size k7
    have Lkl := lt_size kl
    refine in_gpass (T0 := fun _ => False) (K := fun _ _ => True) (κ := fun i => [0, 0, 0, 0, 0, 0].getD i 0) (υ := fun i => [[], [], [], [], [], []].getD i []) [0, 1, 2, 3, 4, 5] (by kernel_rfl) (by kernel_rfl) (by rintro ⟨_, _, h⟩; exact hL ⟨_, _, h⟩) (by kernel_rfl) (Good.true).cl (trivial) (fun _ h => h.elim) ?_
    have gK := Good.true
    (refine TG.v0 (v := ?v31) (by simp only [List.getElem?_toArray, List.getElem?_cons_succ, List.getElem?_cons_zero]; rfl) rfl ?hw31 (fun w1 => ?hy31) ?hn31; (case hw31 => rfl); (case hy31 => (go_simp; (try with_reducible rfl))); (try simp only [Act.put, List.setIfInBounds_toArray, List.set_cons_zero, List.set_cons_succ]))
    (refine TG.v0 (v := ?v32) (by simp only [List.getElem?_toArray, List.getElem?_cons_succ, List.getElem?_cons_zero]; rfl) rfl ?hw32 (fun w1 => ?hy32) ?hn32; (case hw32 => rfl); (case hy32 => (go_simp; (try with_reducible rfl))); (try simp only [Act.put, List.setIfInBounds_toArray, List.set_cons_zero, List.set_cons_succ]))
    (refine TG.v0 (v := ?v33) (by simp only [List.getElem?_toArray, List.getElem?_cons_succ, List.getElem?_cons_zero]; rfl) rfl ?hw33 (fun w1 => ?hy33) ?hn33; (case hw33 => rfl); (case hy33 => (go_simp; (try with_reducible rfl))); (try simp only [Act.put, List.setIfInBounds_toArray, List.set_cons_zero, List.set_cons_succ]))
    (refine TG.load (v := ?v34) (p := ?p34) (by simp only [List.getElem?_toArray, List.getElem?_cons_succ, List.getElem?_cons_zero]; rfl) rfl ?hw34 rfl ?hx34 (fun wq hSq => ?hy34) ?hn34; (case hw34 => rfl); (case hx34 => (simp only [Act.eval, Array.getD_eq_getD_getElem?, List.getElem?_toArray, List.getElem?_cons_succ, List.getElem?_cons_zero, Option.getD_some]; (try rfl))); (case hy34 => (have kb1q := hSq.at kb1 (by intro hT; first | exact hT | exact absurd hT (by assumption) | omega | (simp only at hT; omega)); have ka3q := hSq.at ka3 (by intro hT; first | exact hT | exact absurd hT (by assumption) | omega | (simp only at hT; omega)); have k7q := hSq.at k7 (by intro hT; first | exact hT | exact absurd hT (by assumption) | omega | (simp only at hT; omega)); have klq := hSq.at kl (by intro hT; first | exact hT | exact absurd hT (by assumption) | omega | (simp only at hT; omega)); go_simp; (try with_reducible rfl))); (try simp only [Act.put, List.setIfInBounds_toArray, List.set_cons_zero, List.set_cons_succ]))
    (refine TG.load (v := ?v35) (p := ?p35) (by simp only [List.getElem?_toArray, List.getElem?_cons_succ, List.getElem?_cons_zero]; rfl) rfl ?hw35 rfl ?hx35 (fun wq hSq => ?hy35) ?hn35; (case hw35 => rfl); (case hx35 => (simp only [Act.eval, Array.getD_eq_getD_getElem?, List.getElem?_toArray, List.getElem?_cons_succ, List.getElem?_cons_zero, Option.getD_some]; (try rfl))); (case hy35 => (have kb1q := hSq.at kb1 (by intro hT; first | exact hT | exact absurd hT (by assumption) | omega | (simp only at hT; omega)); have ka3q := hSq.at ka3 (by intro hT; first | exact hT | exact absurd hT (by assumption) | omega | (simp only at hT; omega)); have k7q := hSq.at k7 (by intro hT; first | exact hT | exact absurd hT (by assumption) | omega | (simp only at hT; omega)); have klq := hSq.at kl (by intro hT; first | exact hT | exact absurd hT (by assumption) | omega | (simp only at hT; omega)); go_simp; (try with_reducible rfl))); (try simp only [Act.put, List.setIfInBounds_toArray, List.set_cons_zero, List.set_cons_succ]))
    (refine TG.v0 (v := ?v36) (by simp only [List.getElem?_toArray, List.getElem?_cons_succ, List.getElem?_cons_zero]; rfl) rfl ?hw36 (fun w1 => ?hy36) ?hn36; (case hw36 => rfl); (case hy36 => (go_simp; (try with_reducible rfl))); (try simp only [Act.put, List.setIfInBounds_toArray, List.set_cons_zero, List.set_cons_succ]))
    refine TG.nil (fun w4 ⟨TR, hr⟩ => ?_)
    have kb1 := hr.mod.at kb1 (by intro hT; first | exact hT | exact absurd hT (by assumption) | omega | (simp only at hT; omega))
    have ka3 := hr.mod.at ka3 (by intro hT; first | exact hT | exact absurd hT (by assumption) | omega | (simp only at hT; omega))
    have k7 := hr.mod.at k7 (by intro hT; first | exact hT | exact absurd hT (by assumption) | omega | (simp only at hT; omega))
    have kl := hr.mod.at kl (by intro hT; first | exact hT | exact absurd hT (by assumption) | omega | (simp only at hT; omega))
    clear gK
    have hle : lc id (E ++ [b]) = lc id E := by rw [lc_snoc]; unfold lcS; rw [if_neg hgt]
    have HM4 := Lib.hid (HM3.out.then0 hr.mod)
    have HO4 := Lib.hid (HO3.out.mod0 hr.mod)
    have HLE := Lib.hid hle
    clear hle hr hgt hdt
    gi_wp2
    exact HF.out _ _ kb1 (by rw [HLE.out]; exact ka3) k7 (by rw [HLE.out]; exact kl) HO4.out (HM4.out.mono (fun _ _ e => .inr e))
end Go.Proofs.Ytffcnnogkpdinaa
