/- Lists in new memory: slices.Clone, slices.Clip (the laws over any program; types of lists). -/
import Derived.Test.YtofpnmoeimjnnaaTrd
namespace Go.Proofs.Ytofpnmoeimjnnaa
open Go.RowKit
open Go.ChangeMaps (setBlock)
set_option linter.unusedSimpArgs false
set_option linter.unusedVariables false
attribute [local go_sem] cell_blk frozen_blk one_int one_bool one_ptr one_slice one_map Value.cells
/-- The block is none that a string shares. -/
def Fz (w : World) (a : Option Addr) : Prop := ∀ p o, a = some ⟨p, o, none⟩ → ∃ C U, w.heap[p]? = some (.cells C U (0, 0))
section
variable {α : Type} {P : Program} {T E : TypeId} {f : α → Array Value} {n B : Nat}
theorem sl_clip (hT : ElT P T E f n B) {g o cap len : Nat} (hk : len ≤ cap) (w : World) :
    (Instr.sliceAt T (.slice (some ⟨g, o, none⟩) len cap) none (some (.int .i64 (len : Int))) (some (.int .i64 (len : Int)))).run P w = .ok (.slice (some ⟨g, o, none⟩) len len) w := by
  obtain ⟨i0, z, hi, hz, hz1, hz2, hz3⟩ := hT.info
  have hadd : (⟨g, o, none⟩ : Addr).add (0 * n) = ⟨g, o, none⟩ := by
    unfold Addr.add
    rw [Nat.zero_mul, if_pos rfl]
  have hp : (0 : Int) ≤ (len : Int) ∧ (len : Int) ≤ (cap : Int) := ⟨by omega, by omega⟩
  have hp2 : (0 : Int) ≤ (len : Int) ∧ (len : Int) ≤ (len : Int) := ⟨by omega, by omega⟩
  simp only [Instr.sliceAt, Instr.slice, Instr.sliceBounds, Instr.sliceBound, asIntOf, sizeOf, typeInfo, run_underlying hT.u, hi, Sem.run_bind, Sem.run_pure, Result.andThen_ok]
  rw [if_pos hp]
  simp only [Sem.run_pure, Result.andThen_ok, Go.program, Sem.run, hi, hz1, Option.map_some, Int.toNat_natCast, hadd, Nat.sub_zero, ite_self, hp2, and_self, if_true]
theorem sl_clip0 (hT : ElT P T E f n B) (w : World) :
    (Instr.sliceAt T (.slice none 0 0) none (some (.int .i64 0)) (some (.int .i64 0))).run P w = .ok (.slice none 0 0) w := by
  obtain ⟨i0, z, hi, hz, hz1, hz2, hz3⟩ := hT.info
  simp only [Instr.sliceAt, Instr.slice, Instr.sliceBounds, Instr.sliceBound, asIntOf, sizeOf, typeInfo, run_underlying hT.u, hi, Sem.run_bind, Sem.run_pure, Result.andThen_ok]
  rw [if_pos ⟨by omega, by omega⟩]
  simp [Sem.run_pure, Result.andThen_ok, Go.program, Sem.run, hi, hz1]
theorem clip_own (hT : ElT P T E f n B) {w : World} {base : Nat} {v : Value} {l : List α} (h : SlOwn f n E w base v l) :
    ∃ a c, v = .slice a l.length c ∧ (∀ w2, (Instr.sliceAt T v none (some (.int .i64 (l.length : Int))) (some (.int .i64 (l.length : Int)))).run P w2 = .ok (.slice a l.length l.length) w2) ∧ SlAt f n w a l ∧ (∀ x, a = some x → base ≤ x.block ∧ v.ownBlock = some x.block) ∧ Fz w a := by
  obtain ⟨a, c, h1, h2, h3, h4⟩ := h.at hT
  rcases h.2 with ⟨rfl, hn⟩ | ⟨g, cap, cur, rfl, hb, hg, hnc, hcm, hcs, htake⟩
  · obtain rfl : l = [] := List.eq_nil_of_length_eq_zero hn
    injection h1 with e1 e2 e3
    subst e1
    exact ⟨none, 0, rfl, fun w2 => sl_clip0 hT w2, h2, fun x hx => ⟨(h3 x hx).1, (h3 x hx).2.2⟩, fun p o e => by cases e⟩
  · injection h1 with e1 e2 e3
    subst e1
    exact ⟨_, cap, rfl, fun w2 => sl_clip hT hnc w2, h2, fun x hx => ⟨(h3 x hx).1, (h3 x hx).2.2⟩, fun p o e => by cases e; exact ⟨_, _, hg⟩⟩
end
section
variable {α : Type} {P : Program} {T E : TypeId} {f : α → Array Value} {n B : Nat}
/-- A list in a block of its own, from its head on. -/
def NewS (f : α → Array Value) (n : Nat) (E : TypeId) (base : Nat) (w : World) (v : Value) (l : List α) : Prop :=
  (v = .slice none 0 0 ∧ l = []) ∨ ∃ g cur, v = .slice (some ⟨g, 0, none⟩) l.length l.length ∧ base ≤ g ∧ w.heap[g]? = some (.cells cur E (0, 0)) ∧ ∀ (i : Nat) x, l[i]? = some x → cur.extract (i * n) (i * n + n) = f x ∧ i * n + n ≤ cur.size
theorem NewS.at {base : Nat} {w : World} {v : Value} {l : List α} (h : NewS f n E base w v l) : ∃ a, v = .slice a l.length l.length ∧ SlAt f n w a l ∧ ∀ g o, a = some ⟨g, o, none⟩ → base ≤ g ∧ g < w.heap.size := by
  rcases h with ⟨rfl, rfl⟩ | ⟨g, cur, rfl, hb, hg, hc⟩
  · exact ⟨none, rfl, .inl rfl, fun g o e => by cases e⟩
  · exact ⟨_, rfl, .inr ⟨g, 0, cur, _, _, rfl, hg, fun i x hx => by simpa using hc i x hx⟩, fun g' o e => by cases e; exact ⟨hb, lt_size hg⟩⟩
theorem NewS.mod {base : Nat} {w w' : World} {v : Value} {l : List α} {S : Nat → Prop} (h : NewS f n E base w v l) (hm : Mod S w w') (hS : ∀ g, v.ownBlock = some g → ¬ S g) : NewS f n E base w' v l := by
  rcases h with h | ⟨g, cur, rfl, hb, hg, hc⟩
  · exact .inl h
  · exact .inr ⟨g, cur, rfl, hb, hm.at hg (hS g rfl), hc⟩
theorem NewS.mod0 {base : Nat} {w w' : World} {v : Value} {l : List α} (h : NewS f n E base w v l) (hm : Mod (fun _ => False) w w') : NewS f n E base w' v l := h.mod hm (fun _ _ h => h)
theorem NewS.base {b b' : Nat} {w : World} {v : Value} {l : List α} (h : NewS f n E b w v l) (hb : b' ≤ b) : NewS f n E b' w v l := by
  rcases h with h | ⟨g, cur, e, h1, h2⟩
  · exact .inl h
  · exact .inr ⟨g, cur, e, Nat.le_trans hb h1, h2⟩
theorem NewS.lt {base : Nat} {w : World} {v : Value} {l : List α} (h : NewS f n E base w v l) : ∀ g, v.ownBlock = some g → base ≤ g ∧ g < w.heap.size := by
  intro g hg
  rcases h with ⟨rfl, _⟩ | ⟨g', cur, rfl, h1, h2, _⟩
  · cases hg
  · cases hg
    exact ⟨h1, lt_size h2⟩
theorem own_e {w : World} {base q : Nat} (hb : base ≤ q) (hg : w.heap[q]? = some (.cells #[] E (0, 0))) : SlOwn f n E w base (.slice (some ⟨q, 0, none⟩) 0 0) ([] : List α) :=
  ⟨by simp [cellsOf], .inr ⟨q, 0, #[], rfl, hb, hg, Nat.le_refl _, by simp [maxLen], by simp, by simp [cellsOf]⟩⟩
/-- Clipped. -/
theorem SlOwn.clip (hT : ElT P T E f n B) {w : World} {base : Nat} {v : Value} {l : List α} (h : SlOwn f n E w base v l) :
    ∃ a c v2, v = .slice a l.length c ∧ (∀ w2, (Instr.sliceAt T v none (some (.int .i64 (l.length : Int))) (some (.int .i64 (l.length : Int)))).run P w2 = .ok v2 w2) ∧ NewS f n E base w v2 l := by
  rcases h.2 with ⟨rfl, hn⟩ | ⟨g, cap, cur, rfl, hb, hg, hnc, hcm, hcs, htake⟩
  · obtain rfl : l = [] := List.eq_nil_of_length_eq_zero hn
    exact ⟨none, 0, _, rfl, fun w2 => sl_clip0 hT w2, .inl ⟨rfl, rfl⟩⟩
  · refine ⟨_, cap, _, rfl, fun w2 => sl_clip hT hnc w2, .inr ⟨g, cur, rfl, hb, hg, fun i x hx => ?_⟩⟩
    obtain ⟨a, c, e, hat, _⟩ := h.at hT
    injection e with e1 _ _
    subst e1
    obtain ⟨b, o, C, U, fr, e2, hb2, he, hle⟩ := hat.block hx
    cases e2
    rw [hg] at hb2
    cases hb2
    simpa using And.intro he hle
end

theorem outT : ElT Try.prog 78 64 ocr 6 64 where
  u := Try.underlying78
  info := by
    obtain ⟨i0, hi, hz0, hz1, hz2⟩ := info_parts (show (Try.prog.info? 64).map (fun i => (i.zero, i.size, i.bytes)) = some (some (.agg zOut), 6, 64) by kernel_rfl)
    exact ⟨i0, _, hi, hz0, hz1, hz2, by simp [Value.cells, zOut, ocr_size]⟩
  pos := by omega
  size := ocr_size
  one o := by
    have h2 := ocr_one' o
    rw [Array.all_eq_true_iff_forall_mem] at h2
    intro u hu
    exact h2 u (by simpa using hu)
end Go.Proofs.Ytofpnmoeimjnnaa
