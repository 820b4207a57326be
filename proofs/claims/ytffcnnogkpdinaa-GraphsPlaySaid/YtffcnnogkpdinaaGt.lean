/- Graphs: tools for Put: the marks of loops over functions, frames written out, pieces of code. -/
import Derived.Test.YtffcnnogkpdinaaGa
import Derived.Test.YtffcnnogkpdinaaEn
import Derived.Test.YtffcnnogkpdinaaRo
import Derived.Test.YtffcnnogkpdinaaTx
import Derived.Test.YtffcnnogkpdinaaGq
namespace Go.Proofs.Ytffcnnogkpdinaa
open Go.RowKit
open Go.ChangeMaps (setBlock)
set_option linter.unusedSimpArgs false
set_option linter.unusedVariables false
/-- The marks that loops over functions have left. -/
def Marks (n : Nat) (ds : List Deferred) (w : World) : Prop := ∃ Ds : List Nat, ds = Ds.map (fun D => ({ target := .collected D, args := #[] } : Deferred)) ∧ Ds.Nodup ∧ ∀ D ∈ Ds, n ≤ D ∧ w.heap[D]? = some (.deferred (some []))
theorem Marks.nil (n : Nat) (w : World) : Marks n [] w := ⟨[], rfl, List.nodup_nil, fun _ h => by cases h⟩
theorem Marks.mod {n : Nat} {ds : List Deferred} {w w' : World} {M : Nat → Prop} (h : Marks n ds w) (hm : Mod M w w') (hM : ∀ i, w.heap[i]? = some (.deferred (some [])) → ¬ M i) : Marks n ds w' := by
  obtain ⟨Ds, e, h1, h2⟩ := h
  exact ⟨Ds, e, h1, fun D hD => ⟨(h2 D hD).1, hm.at (h2 D hD).2 (hM D (h2 D hD).2)⟩⟩
theorem Marks.cons {n D : Nat} {ds : List Deferred} {w w' : World} {M : Nat → Prop} (h : Marks n ds w) (hm : Mod M w w') (hM : ∀ i, w.heap[i]? = some (.deferred (some [])) → ¬ M i) (hn : n ≤ w.heap.size) (hD : w.heap.size ≤ D) (hk : w'.heap[D]? = some (.deferred (some []))) :
    Marks n (({ target := .collected D, args := #[] } : Deferred) :: ds) w' := by
  obtain ⟨Ds, e, h1, h2⟩ := h
  refine ⟨D :: Ds, by rw [e]; rfl, List.nodup_cons.2 ⟨fun hh => ?_, h1⟩, fun E hE => ?_⟩
  · have := lt_size (h2 D hh).2
    omega
  · rcases List.mem_cons.1 hE with rfl | hE
    · exact ⟨by omega, hk⟩
    · exact ⟨(h2 E hE).1, hm.at (h2 E hE).2 (hM E (h2 E hE).2)⟩
theorem Marks.keeps {n : Nat} {ds : List Deferred} {w w' : World} (h : Marks n ds w) (hm : KeepsOthers w w') : Marks n ds w' := by
  obtain ⟨Ds, e, h1, h2⟩ := h
  exact ⟨Ds, e, h1, fun D hD => ⟨(h2 D hD).1, hm.same _ _ (h2 D hD).2 rfl⟩⟩
theorem Marks.cons' {n D : Nat} {ds : List Deferred} {w w' : World} (h : Marks n ds w) (hm : KeepsOthers w w') (hn : n ≤ w.heap.size) (hD : w.heap.size ≤ D) (hk : w'.heap[D]? = some (.deferred (some []))) : Marks n (({ target := .collected D, args := #[] } : Deferred) :: ds) w' := by
  obtain ⟨Ds, e, h1, h2⟩ := h
  refine ⟨D :: Ds, by rw [e]; rfl, List.nodup_cons.2 ⟨fun hh => ?_, h1⟩, fun E hE => ?_⟩
  · have := lt_size (h2 D hh).2
    omega
  · rcases List.mem_cons.1 hE with rfl | hE
    · exact ⟨by omega, hk⟩
    · exact ⟨(h2 E hE).1, hm.same _ _ (h2 E hE).2 rfl⟩
theorem putObj_setBlock (w : World) (b : Nat) (o : Obj) : w.putObj b o = setBlock w b o := rfl
/-- Leaving over the marks. -/
theorem leaves_marks {F : Fence} {m : Nat} {P : Program} {fn : Func} {tmps : Array Value} {R : Ending → World → Prop} {n : Nat} : ∀ (ds : List Deferred) (w : World), Marks n ds w →
    (∀ w', Mod (fun i => n ≤ i ∧ w.heap[i]? = some (.deferred (some []))) w w' → ∃ v, (results fn tmps).run P w' = .ok v w' ∧ R (.returned v) w') → LeavesInM F m P fn tmps R ds .returning w := by
  intro ds
  induction ds with
  | nil => exact fun w _ h => h w (Mod.refl _ _)
  | cons d ds ih =>
    rintro w ⟨Ds, e, h1, h2⟩ h
    cases Ds with
    | nil => cases e
    | cons D Ds =>
      rw [List.map_cons, List.cons.injEq] at e
      obtain ⟨rfl, e⟩ := e
      rw [List.nodup_cons] at h1
      obtain ⟨hD, hk⟩ := h2 D (by simp)
      refine ⟨by simp, .inl ⟨D, _, rfl, run_takeDeferred hk, ?_⟩⟩
      have hm : Mod (fun i => i = D) w (w.putObj D (.deferred none)) := by rw [putObj_setBlock]; exact mod_set w D _
      refine ih _ ⟨Ds, e, h1.2, fun E hE => ⟨(h2 E (by simp [hE])).1, hm.at (h2 E (by simp [hE])).2 (fun e => h1.1 (e ▸ hE))⟩⟩ fun w' hw' => ?_
      refine h w' ((hm.mono (fun i _ e => by rw [e]; exact ⟨hD, hk⟩)).then hw' (fun i hi hh => ⟨hh.1, ?_⟩))
      by_cases e : i = D
      · rw [e]; exact hk
      · rw [← hm.block i hi e]; exact hh.2
section
variable {tag tag' : Tag} {w w' : World} {g nb sb pu : Nat} {A : List Nat} {N : List (Int64 × Nat)} {S : List (Key × Nat)} {nd nd' : Nat → Nr} {sp : Nat → Sr}
/-- Nodes are told anew. -/
theorem GMem.nds {M : Nat → Prop} (h : GMem tag w g nb sb pu A N S nd sp) (hm : Mod M w w') (hM : ∀ i c r, tag i = some (c, r) → M i → r ≤ 2) (ht : ∀ i, i < w.heap.size → tag' i = tag i) (hx : ∀ c ∈ A, NdAt tag' w' c (nd' c)) : GMem tag' w' g nb sb pu A N S nd' sp := by
  obtain ⟨es, c, hk, M1⟩ := h.kn
  obtain ⟨es2, c2, hk2, M2⟩ := h.ks
  refine ⟨hm.at h.c (fun e => ?_), ⟨es, c, hm.at hk (fun e => ?_), M1⟩, ⟨es2, c2, hm.at hk2 (fun e => ?_), M2⟩, hx, fun p hp => (h.spots p hp).mod hm (fun i r e h3 h4 hi => ?_) ht, (ht _ (lt_size h.c)).trans h.tg, (ht _ (lt_size hk)).trans h.tnb, (ht _ (lt_size hk2)).trans h.tsb⟩
  · have := hM _ _ _ h.tg e; omega
  · have := hM _ _ _ h.tnb e; omega
  · have := hM _ _ _ h.tsb e; omega
  · have := hM _ _ _ e hi; omega
/-- What is no cells, and lies behind all maps, may turn. -/
theorem GMem.turn {M : Nat → Prop} {B : Nat} (h : GMem tag w g nb sb pu A N S nd sp) (hm : Mod M w w') (hM : ∀ i, M i → B ≤ i ∧ ∀ cs T, w.heap[i]? ≠ some (.cells cs T (0, 0))) (h1 : nb < B) (h2 : sb < B) (h3 : ∀ a ∈ A, (nd a).kb < B) : GMem tag w' g nb sb pu A N S nd sp := by
  obtain ⟨es, c, hk, M1⟩ := h.kn
  obtain ⟨es2, c2, hk2, M2⟩ := h.ks
  have hc : ∀ {i cs T}, w.heap[i]? = some (.cells cs T (0, 0)) → ¬ M i := fun e hi => (hM _ hi).2 _ _ e
  have hb : ∀ {i}, i < B → ¬ M i := fun e hi => by have := (hM _ hi).1; omega
  have ho : ∀ {v : Value} {l : List Nat}, SlOwn pc 1 62 w 0 v l → SlOwn pc 1 62 w' 0 v l := fun h => h.mod hm (fun g hg => by
    obtain ⟨cur, hk⟩ := own_block h hg
    exact hc hk)
  refine ⟨hm.at h.c (hc h.c), ⟨es, c, hm.at hk (hb h1), M1⟩, ⟨es2, c2, hm.at hk2 (hb h2), M2⟩, fun a ha => ?_, fun p hp => ?_, h.tg, h.tnb, h.tsb⟩
  · have hn := h.nodes a ha
    obtain ⟨es, c, hk, M'⟩ := hn.k
    exact ⟨hm.at hn.c (hc hn.c), ho hn.o, ⟨es, c, hm.at hk (hb (h3 a ha)), M'⟩, hn.ta, hn.tk, hn.tn⟩
  · have hs := h.spots p hp
    exact ⟨hm.at hs.c (hc hs.c), ho hs.o, hs.ta, hs.tr⟩
end
/-- A frame of n slots, written out. -/
theorem arr_range (t : Array Value) : t = ((List.range t.size).map (fun i => t.getD i undef)).toArray := by
  apply Array.ext
  · simp
  · intro i h1 h2
    simp [h1]
theorem arr157 (t : Array Value) (h : t.size = 157) : ∃ u : Nat → Value, (∀ i, t.getD i undef = u i) ∧ t = (List.toArray (u 0 :: u 1 :: u 2 :: u 3 :: u 4 :: u 5 :: u 6 :: u 7 :: u 8 :: u 9 :: u 10 :: u 11 :: u 12 :: u 13 :: u 14 :: u 15 :: u 16 :: u 17 :: u 18 :: u 19 :: u 20 :: u 21 :: u 22 :: u 23 :: u 24 :: u 25 :: u 26 :: u 27 :: u 28 :: u 29 :: u 30 :: u 31 :: u 32 :: u 33 :: u 34 :: u 35 :: u 36 :: u 37 :: u 38 :: u 39 :: u 40 :: u 41 :: u 42 :: u 43 :: u 44 :: u 45 :: u 46 :: u 47 :: u 48 :: u 49 :: u 50 :: u 51 :: u 52 :: u 53 :: u 54 :: u 55 :: u 56 :: u 57 :: u 58 :: u 59 :: u 60 :: u 61 :: u 62 :: u 63 :: u 64 :: u 65 :: u 66 :: u 67 :: u 68 :: u 69 :: u 70 :: u 71 :: u 72 :: u 73 :: u 74 :: u 75 :: u 76 :: u 77 :: u 78 :: u 79 :: u 80 :: u 81 :: u 82 :: u 83 :: u 84 :: u 85 :: u 86 :: u 87 :: u 88 :: u 89 :: u 90 :: u 91 :: u 92 :: u 93 :: u 94 :: u 95 :: u 96 :: u 97 :: u 98 :: u 99 :: u 100 :: u 101 :: u 102 :: u 103 :: u 104 :: u 105 :: u 106 :: u 107 :: u 108 :: u 109 :: u 110 :: u 111 :: u 112 :: u 113 :: u 114 :: u 115 :: u 116 :: u 117 :: u 118 :: u 119 :: u 120 :: u 121 :: u 122 :: u 123 :: u 124 :: u 125 :: u 126 :: u 127 :: u 128 :: u 129 :: u 130 :: u 131 :: u 132 :: u 133 :: u 134 :: u 135 :: u 136 :: u 137 :: u 138 :: u 139 :: u 140 :: u 141 :: u 142 :: u 143 :: u 144 :: u 145 :: u 146 :: u 147 :: u 148 :: u 149 :: u 150 :: u 151 :: u 152 :: u 153 :: u 154 :: u 155 :: u 156 :: [])) :=
  ⟨fun i => t.getD i undef, fun _ => rfl, by
    have := arr_range t
    rw [h] at this
    exact this⟩
/-- The first range over a function: its body. -/
def rfBody : Code → Option Code
  | .rangeFunc _ _ _ c => some c
  | .loop c => rfBody c
  | .seq a b => match rfBody a with
    | some c => some c
    | none => rfBody b
  | .block _ c => rfBody c
  | .scope c => rfBody c
  | .cond _ a b => match rfBody a with
    | some c => some c
    | none => rfBody b
  | _ => none
/-- All of it. -/
def rfCode : Code → Option Code
  | .rangeFunc a b c d => some (.rangeFunc a b c d)
  | .loop c => rfCode c
  | .seq a b => match rfCode a with
    | some c => some c
    | none => rfCode b
  | .block _ c => rfCode c
  | .scope c => rfCode c
  | .cond _ a b => match rfCode a with
    | some c => some c
    | none => rfCode b
  | _ => none
/-- The loop that holds a range over a function: its body. -/
def rfLoop : Code → Option Code
  | .loop c => (rfCode c).map fun _ => c
  | .seq a b => match rfLoop a with
    | some c => some c
    | none => rfLoop b
  | .block _ c => rfLoop c
  | .scope c => rfLoop c
  | .cond _ a b => match rfLoop a with
    | some c => some c
    | none => rfLoop b
  | _ => none
noncomputable def edgeBody : Code := ((Try.f10).body.bind rfBody).getD .skip
noncomputable def edgeCode : Code := ((Try.f10).body.bind rfCode).getD .skip
noncomputable def keysBody : Code := ((Try.f10).body.bind rfLoop).getD .skip
end Go.Proofs.Ytffcnnogkpdinaa
