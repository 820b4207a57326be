/- Graphs, Put: all edges of one key (the range over a function). -/
import Derived.Test.YtffcnnogkpdinaaGr
namespace Go.Proofs.Ytffcnnogkpdinaa
open Go.RowKit Go.Shelf
open Go.ChangeMaps (setBlock)
set_option linter.unusedSimpArgs false
set_option linter.unusedVariables false
attribute [local go_sem] Oper.semAt_some one_int one_bool one_ptr one_slice one_map cell_blk frozen_blk Value.cells
theorem mod_grown {W W' : World} {row : Option Nat} (hg : W.grownBy W' row) : Mod (fun i => row = some i) W W' := ⟨hg.os, hg.tape, hg.output, hg.size, fun i hi hs => hg.block i hi (fun e => hs e.symm)⟩
/-- What is fixed while Put goes on. -/
structure PFix (L : List An) (a : Nat) (nd0 : Nat → Nr) : Prop where
  ha : ∀ c ∈ L, c.a ≠ a
  hi : ∀ b ∈ L, ∀ c ∈ L, c.a = b.a → c = b
  nds : ∀ b ∈ L, NdIs (nd0 b.a) b
  pts : ∀ b ∈ L, b.pt ≤ 1000000
  nxl : ∀ b ∈ L, (nd0 b.a).nx.length ≤ 900000000
  len : L.length ≤ 1000
section
variable {g nb sb q : Nat} {L : List An} {a : Nat} {id : Int64} {kb : Nat} {ks : List (Key × Bool)} {N : List (Int64 × Nat)} {S : List (Key × Nat)} {nd0 : Nat → Nr} {sp : Nat → Sr} {b7 p10 : Nat} {E : List An} {tag : Tag} {nd : Nat → Nr} {w : World}
theorem EI.kbs (H : EI g nb sb q L a id kb ks N S nd0 sp b7 p10 E tag nd w) (c : Nat) (hc : c ∈ L.map An.a ++ [a]) : (nd c).kb = if c = a then kb else (nd0 c).kb := by
  by_cases e : c = a
  · rw [if_pos e, e, H.ndp.new]
  · rw [if_neg e]
    rcases List.mem_append.1 hc with h | h
    · obtain ⟨b, hb, rfl⟩ := List.mem_map.1 h
      obtain ⟨v, hv⟩ := H.ndp.old b hb
      rw [hv]
    · exact absurd (List.mem_singleton.1 h) e
theorem EI.kbl (H : EI g nb sb q L a id kb ks N S nd0 sp b7 p10 E tag nd w) (c : Nat) (hc : c ∈ L.map An.a ++ [a]) : (if c = a then kb else (nd0 c).kb) < w.heap.size := by
  rw [← H.kbs c hc]
  obtain ⟨es, cl, hk, _⟩ := (H.mem.nodes c hc).k
  exact lt_size hk
theorem EI.turn {M : Nat → Prop} {w' : World} {B : Nat} (H : EI g nb sb q L a id kb ks N S nd0 sp b7 p10 E tag nd w) (hm : Mod M w w') (hM : ∀ i, M i → B ≤ i ∧ ∀ cs T, w.heap[i]? ≠ some (.cells cs T (0, 0))) (h1 : nb < B) (h2 : sb < B) (h3 : ∀ c ∈ L.map An.a ++ [a], (if c = a then kb else (nd0 c).kb) < B) : EI g nb sb q L a id kb ks N S nd0 sp b7 p10 E tag nd w' :=
  ⟨H.mem.turn hm hM h1 h2 (fun c hc => by rw [H.kbs c hc]; exact h3 c hc), H.ndp, hm.at H.k7 (fun h => (hM _ h).2 _ _ H.k7), hm.at H.kl (fun h => (hM _ h).2 _ _ H.kl), fun i hi => Nat.lt_of_lt_of_le (H.hlt i hi) hm.size, H.n7, H.nl⟩
/-- The address of one that is there. -/
def subA (x : {b : An // b ∈ L}) : Nat := x.1.a
set_option maxRecDepth 100000 in
set_option maxHeartbeats 4000000 in
theorem rf_c (H : EI g nb sb q L a id kb ks N S nd0 sp b7 p10 E tag nd w) (hf : PFix L a nd0) (hE : E.length ≤ 900000) (hq : q ≤ 1000000) {zw : Option {b : An // b ∈ L}} {zr : List {b : An // b ∈ L}} {wr : Bool} {Bs Bw s : Nat} {rv : Value}
    (kB : w.heap[Bs]? = some (.cells #[ptrV s] 67 (0, 0))) (kw : w.heap[Bw]? = some (.cells #[.bool wr] 4 (0, 0))) (ksp : w.heap[s]? = some (.cells #[opV (zw.map subA), rv] 69 (0, 0))) (ho : SlOwn pc 1 62 w 0 rv (zr.map subA)) (hlen : zr.length ≤ 1000)
    (hBs : tag Bs = none) (hBw : tag Bw = none) (nBs : Bs ≠ p10) (nBw : Bw ≠ p10) (hs3 : tag s = some (s, 3)) (hr4 : ∀ g, rv.ownBlock = some g → tag g = some (s, 4)) (u : Nat → Value) (ds : List Deferred) {Q : Exit → Act → World → Prop}
    (hdone : ∀ D W tag' nd', w.heap.size ≤ D → W.heap[D]? = some (.deferred (some [])) → EI g nb sb q L a id kb ks N S nd0 sp b7 p10 (E ++ (aheadL zw zr wr).map (·.1)) tag' nd' W → (∀ i, i < w.heap.size → tag' i = tag i) → Mod (edgeM tag p10) w W → KeepsOthers w W → Q .normal ⟨(List.toArray (u 0 :: u 1 :: u 2 :: u 3 :: u 4 :: u 5 :: u 6 :: ptrV b7 :: u 8 :: u 9 :: ptrV p10 :: u 11 :: u 12 :: u 13 :: u 14 :: u 15 :: u 16 :: u 17 :: u 18 :: u 19 :: u 20 :: u 21 :: u 22 :: u 23 :: u 24 :: u 25 :: u 26 :: u 27 :: u 28 :: u 29 :: u 30 :: u 31 :: u 32 :: u 33 :: u 34 :: u 35 :: u 36 :: u 37 :: u 38 :: u 39 :: u 40 :: u 41 :: u 42 :: u 43 :: u 44 :: u 45 :: u 46 :: u 47 :: u 48 :: u 49 :: u 50 :: u 51 :: u 52 :: u 53 :: u 54 :: u 55 :: u 56 :: u 57 :: u 58 :: u 59 :: u 60 :: u 61 :: u 62 :: u 63 :: u 64 :: u 65 :: u 66 :: u 67 :: u 68 :: u 69 :: u 70 :: u 71 :: u 72 :: u 73 :: u 74 :: u 75 :: u 76 :: u 77 :: u 78 :: u 79 :: u 80 :: u 81 :: u 82 :: u 83 :: u 84 :: u 85 :: u 86 :: u 87 :: u 88 :: u 89 :: u 90 :: u 91 :: u 92 :: u 93 :: u 94 :: u 95 :: u 96 :: .func (.func 35) #[] #[.pointer (some ⟨Bs, 0, none⟩), .pointer (some ⟨Bw, 0, none⟩)] :: u 98 :: u 99 :: u 100 :: u 101 :: u 102 :: u 103 :: u 104 :: u 105 :: u 106 :: u 107 :: u 108 :: u 109 :: u 110 :: u 111 :: u 112 :: u 113 :: u 114 :: u 115 :: u 116 :: u 117 :: u 118 :: u 119 :: u 120 :: u 121 :: u 122 :: u 123 :: u 124 :: u 125 :: u 126 :: u 127 :: u 128 :: u 129 :: u 130 :: u 131 :: u 132 :: u 133 :: u 134 :: u 135 :: u 136 :: u 137 :: u 138 :: u 139 :: u 140 :: u 141 :: u 142 :: u 143 :: u 144 :: u 145 :: u 146 :: u 147 :: u 148 :: u 149 :: u 150 :: u 151 :: u 152 :: u 153 :: u 154 :: u 155 :: u 156 :: [])), { target := .collected D, args := #[] } :: ds⟩ W) :
    edgeCode.wp Try.prog Q ⟨(List.toArray (u 0 :: u 1 :: u 2 :: u 3 :: u 4 :: u 5 :: u 6 :: ptrV b7 :: u 8 :: u 9 :: ptrV p10 :: u 11 :: u 12 :: u 13 :: u 14 :: u 15 :: u 16 :: u 17 :: u 18 :: u 19 :: u 20 :: u 21 :: u 22 :: u 23 :: u 24 :: u 25 :: u 26 :: u 27 :: u 28 :: u 29 :: u 30 :: u 31 :: u 32 :: u 33 :: u 34 :: u 35 :: u 36 :: u 37 :: u 38 :: u 39 :: u 40 :: u 41 :: u 42 :: u 43 :: u 44 :: u 45 :: u 46 :: u 47 :: u 48 :: u 49 :: u 50 :: u 51 :: u 52 :: u 53 :: u 54 :: u 55 :: u 56 :: u 57 :: u 58 :: u 59 :: u 60 :: u 61 :: u 62 :: u 63 :: u 64 :: u 65 :: u 66 :: u 67 :: u 68 :: u 69 :: u 70 :: u 71 :: u 72 :: u 73 :: u 74 :: u 75 :: u 76 :: u 77 :: u 78 :: u 79 :: u 80 :: u 81 :: u 82 :: u 83 :: u 84 :: u 85 :: u 86 :: u 87 :: u 88 :: u 89 :: u 90 :: u 91 :: u 92 :: u 93 :: u 94 :: u 95 :: u 96 :: .func (.func 35) #[] #[.pointer (some ⟨Bs, 0, none⟩), .pointer (some ⟨Bw, 0, none⟩)] :: u 98 :: u 99 :: u 100 :: u 101 :: u 102 :: u 103 :: u 104 :: u 105 :: u 106 :: u 107 :: u 108 :: u 109 :: u 110 :: u 111 :: u 112 :: u 113 :: u 114 :: u 115 :: u 116 :: u 117 :: u 118 :: u 119 :: u 120 :: u 121 :: u 122 :: u 123 :: u 124 :: u 125 :: u 126 :: u 127 :: u 128 :: u 129 :: u 130 :: u 131 :: u 132 :: u 133 :: u 134 :: u 135 :: u 136 :: u 137 :: u 138 :: u 139 :: u 140 :: u 141 :: u 142 :: u 143 :: u 144 :: u 145 :: u 146 :: u 147 :: u 148 :: u 149 :: u 150 :: u 151 :: u 152 :: u 153 :: u 154 :: u 155 :: u 156 :: [])), ds⟩ w := by
  have hR : ∀ i, aheadR Bs Bw s rv i → i < w.heap.size ∧ ¬ edgeM tag p10 i := by
    rintro i (rfl | rfl | rfl | h)
    · exact ⟨lt_size kB, fun h => h.elim nBs (fun ⟨c, r, e, _⟩ => by rw [hBs] at e; cases e)⟩
    · exact ⟨lt_size kw, fun h => h.elim nBw (fun ⟨c, r, e, _⟩ => by rw [hBw] at e; cases e)⟩
    · refine ⟨lt_size ksp, fun h => h.elim (fun e => ?_) (fun ⟨c, r, e, h⟩ => ?_)⟩
      · rw [e, H.nl] at hs3; cases hs3
      · rw [hs3] at e; cases e; omega
    · refine ⟨(ho.lt i h).2, fun h1 => h1.elim (fun e => ?_) (fun ⟨c, r, e, h2⟩ => ?_)⟩
      · have := hr4 i h; rw [e, H.nl] at this; cases this
      · rw [hr4 i h] at e; cases e; omega
  have hal : (aheadL zw zr wr).length ≤ 1001 := by
    unfold aheadL
    have : zw.toList.length ≤ 1 := by cases zw <;> simp
    rw [List.length_append]
    split <;> simp <;> omega
  have hnb : nb < w.heap.size := by obtain ⟨es, c, hk, _⟩ := H.mem.kn; exact lt_size hk
  have hsb : sb < w.heap.size := by obtain ⟨es, c, hk, _⟩ := H.mem.ks; exact lt_size hk
  conv => arg 2; whnf
  refine wpIn_wide.1 (wpIn_rangeFunc_ownG (n := 2) rfl (by omega) (gf := 35) (lb := #[.pointer (some ⟨Bs, 0, none⟩), .pointer (some ⟨Bw, 0, none⟩)]) rfl trivial (enters_of Try.func35 (by kernel_rfl) rfl)
    (ahead_stops subA 0 Bs Bw s zw zr wr rv w kB kw ksp ho (by omega)) keepR_t (fun W l o o' hl hk _ _ i hi => World.putObj_heap_other (by have := (hR i hi).1; omega)) (Below.refl _ _) (fun _ => rfl)
    (fun pre W => ∃ tag' nd', EI g nb sb q L a id kb ks N S nd0 sp b7 p10 (E ++ pre.map (·.1)) tag' nd' W ∧ (∀ i, i < w.heap.size → tag' i = tag i) ∧ Mod (edgeM tag p10) w W ∧ KeepsOthers w W)
    (fun _ _ _ => False) ?own (fun _ _ _ _ _ hs _ _ => hs) ⟨tag, nd, by rw [List.map_nil, List.append_nil]; exact H, fun _ _ => rfl, Mod.refl _ _, KeepsOthers.refl _⟩
    (fun x => ⟨(List.toArray (u 0 :: u 1 :: u 2 :: u 3 :: u 4 :: u 5 :: u 6 :: ptrV b7 :: u 8 :: u 9 :: ptrV p10 :: u 11 :: u 12 :: u 13 :: u 14 :: ptrV x.1.a :: u 16 :: u 17 :: u 18 :: u 19 :: u 20 :: u 21 :: u 22 :: u 23 :: u 24 :: u 25 :: u 26 :: u 27 :: u 28 :: u 29 :: u 30 :: u 31 :: u 32 :: u 33 :: u 34 :: u 35 :: u 36 :: u 37 :: u 38 :: u 39 :: u 40 :: u 41 :: u 42 :: u 43 :: u 44 :: u 45 :: u 46 :: u 47 :: u 48 :: u 49 :: u 50 :: u 51 :: u 52 :: u 53 :: u 54 :: u 55 :: u 56 :: u 57 :: u 58 :: u 59 :: u 60 :: u 61 :: u 62 :: u 63 :: u 64 :: u 65 :: u 66 :: u 67 :: u 68 :: u 69 :: u 70 :: u 71 :: u 72 :: u 73 :: u 74 :: u 75 :: u 76 :: u 77 :: u 78 :: u 79 :: u 80 :: u 81 :: u 82 :: u 83 :: u 84 :: u 85 :: u 86 :: u 87 :: u 88 :: u 89 :: u 90 :: u 91 :: u 92 :: u 93 :: u 94 :: u 95 :: u 96 :: .func (.func 35) #[] #[.pointer (some ⟨Bs, 0, none⟩), .pointer (some ⟨Bw, 0, none⟩)] :: ptrV x.1.a :: u 99 :: u 100 :: u 101 :: u 102 :: u 103 :: u 104 :: u 105 :: u 106 :: u 107 :: u 108 :: u 109 :: u 110 :: u 111 :: u 112 :: u 113 :: u 114 :: u 115 :: u 116 :: u 117 :: u 118 :: u 119 :: u 120 :: u 121 :: u 122 :: u 123 :: u 124 :: u 125 :: u 126 :: u 127 :: u 128 :: u 129 :: u 130 :: u 131 :: u 132 :: u 133 :: u 134 :: u 135 :: u 136 :: u 137 :: u 138 :: u 139 :: u 140 :: u 141 :: u 142 :: u 143 :: u 144 :: u 145 :: u 146 :: u 147 :: u 148 :: u 149 :: u 150 :: u 151 :: u 152 :: u 153 :: u 154 :: u 155 :: u 156 :: [])), []⟩) ?assign ?body ?done ?stop)
  case own =>
    rintro pre W W' row ⟨tag', nd', H1, h2, h3, h3k⟩ hg hr
    have hm := mod_grown hg
    refine ⟨tag', nd', H1.turn (B := w.heap.size) hm (fun i e => ?_) hnb hsb H.kbl, h2, h3.then hm (fun i hi e => ?_), ⟨Nat.le_trans h3k.size hm.size, fun k o hk ho => hm.at (h3k.same k o hk ho) (fun e => by have := (hr k e).1; have := lt_size hk; omega)⟩⟩
    · obtain ⟨h4, o, ho, hc⟩ := hr i e
      exact ⟨h4, fun cs T h5 => by rw [ho] at h5; cases h5; cases hc⟩
    · have := (hr i e).1; omega
  case assign =>
    intro l x W K hK
    gi_wp2
    exact hK
  case body =>
    rintro l pre x W ⟨tag', nd', H1, h2, h3, h3k⟩ hlt
    refine edge_c H1 x.2 hf.ha (hf.hi x.1 x.2) (hf.nds _ x.2) (hf.pts _ x.2) (hf.nxl _ x.2) (by rw [List.length_append, List.length_map]; omega) hq (fun i => if i = 98 then ptrV x.1.a else if i = 97 then .func (.func 35) #[] #[.pointer (some ⟨Bs, 0, none⟩), .pointer (some ⟨Bw, 0, none⟩)] else u i) (fun ⟨_, _, h⟩ => h) ?_
    rintro a' W' ⟨tag'', nd'', H2, h4⟩ h5 h6
    have h7 : Mod (edgeM tag p10) w W' := h3.then h5 (fun i hi h => h.imp _root_.id (fun ⟨c, r, e, h⟩ => ⟨c, r, by rw [← h2 i hi]; exact e, h⟩))
    refine ⟨h6.from _, fun i hi => ?_, tag'', nd'', by rw [List.map_append, ← List.append_assoc]; exact H2, fun i hi => (h4 i (Nat.lt_of_lt_of_le hi h3.size)).trans (h2 i hi), h7, h3k.trans h6⟩
    obtain ⟨r1, r2⟩ := hR i hi
    rw [h7.block i r1 r2, h3.block i r1 r2]
  case done =>
    rintro D xs W hD rfl ⟨tag', nd', H1, h2, h3, h3k⟩ hK
    exact hdone D W tag' nd' hD hK H1 h2 h3 h3k
  case stop =>
    rintro D c pre W hD _ h _
    exact h.elim
theorem rf_a (H : EI g nb sb q L a id kb ks N S nd0 sp b7 p10 E tag nd w) (hf : PFix L a nd0) (hE : E.length ≤ 900000) (hq : q ≤ 1000000) {zw : Option {b : An // b ∈ L}} {zr : List {b : An // b ∈ L}} {wr : Bool} {Bs Bw s : Nat} {rv : Value}
    (kB : w.heap[Bs]? = some (.cells #[ptrV s] 67 (0, 0))) (kw : w.heap[Bw]? = some (.cells #[.bool wr] 4 (0, 0))) (ksp : w.heap[s]? = some (.cells #[opV (zw.map subA), rv] 69 (0, 0))) (ho : SlOwn pc 1 62 w 0 rv (zr.map subA)) (hlen : zr.length ≤ 1000)
    (hBs : tag Bs = none) (hBw : tag Bw = none) (nBs : Bs ≠ p10) (nBw : Bw ≠ p10) (hs3 : tag s = some (s, 3)) (hr4 : ∀ g, rv.ownBlock = some g → tag g = some (s, 4)) {Q : Exit → Act → World → Prop} (act : Act) (hn : act.tmps.size = 157) (h7 : act.tmps.getD 7 undef = ptrV b7) (h10 : act.tmps.getD 10 undef = ptrV p10)
    (h97 : act.tmps.getD 97 undef = .func (.func 35) #[] #[.pointer (some ⟨Bs, 0, none⟩), .pointer (some ⟨Bw, 0, none⟩)])
    (hdone : ∀ D W tag' nd', w.heap.size ≤ D → W.heap[D]? = some (.deferred (some [])) → EI g nb sb q L a id kb ks N S nd0 sp b7 p10 (E ++ (aheadL zw zr wr).map (·.1)) tag' nd' W → (∀ i, i < w.heap.size → tag' i = tag i) → Mod (edgeM tag p10) w W → KeepsOthers w W → Q .normal ⟨act.tmps, { target := .collected D, args := #[] } :: act.defers⟩ W) :
    edgeCode.wp Try.prog Q act w := by
  obtain ⟨t, ds⟩ := act
  dsimp only at hn h7 h10 h97 hdone
  obtain ⟨u, hu, e⟩ := arr157 t hn
  rw [hu] at h7 h10 h97
  rw [h7, h10, h97] at e
  subst e
  exact rf_c H hf hE hq kB kw ksp ho hlen hBs hBw nBs nBw hs3 hr4 u ds hdone
end
end Go.Proofs.Ytffcnnogkpdinaa
