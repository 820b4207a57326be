/- A heap in new memory (without the document's heap). -/
import Derived.Test.YtdeghpmlhcaedaaDoorRc
namespace Go.Proofs.YtdeghpmlhcaedaaDoor
open Go.RowKit Go.Sort
open Go.ChangeMaps (setBlock)
set_option linter.unusedSimpArgs false
set_option linter.unusedVariables false
/-- A heap at h that holds C, all of it made since w0; nothing that lay in w0 has changed. -/
def HH (w0 : World) (h : Nat) (C : List Nd) (ws : World) : Prop := ∃ T, HAt h C T ws ∧ (∀ i, T i → w0.heap.size ≤ i ∧ i < ws.heap.size) ∧ Mod (fun _ => False) w0 ws
section
variable {w0 w1 w2 ws : World} {h : Nat} {C C' : List Nd}
theorem HH.mod0 (H : HH w0 h C w1) (hm : Mod (fun _ => False) w1 w2) : HH w0 h C w2 := by
  obtain ⟨T, hA, hT, m⟩ := H
  exact ⟨T, (HAt.good h C).cl T w1 w2 hA (hm.mono (fun _ _ e => e.elim)), fun i hi => ⟨(hT i hi).1, Nat.lt_of_lt_of_le (hT i hi).2 hm.size⟩, m.then0 hm⟩
theorem HH.m (H : HH w0 h C w1) : Mod (fun _ => False) w0 w1 := by
  obtain ⟨T, hA, hT, m⟩ := H
  exact m
theorem HH.ids (H : HH w0 h C w1) : (C.map Nd.id).Nodup := by
  obtain ⟨T, hA, hT, m⟩ := H
  exact hA.ids
/-- Seen from a world ahead. -/
theorem HH.from (H : HH w1 h C w2) (hm : Mod (fun _ => False) w0 w1) : HH w0 h C w2 := by
  obtain ⟨T, hA, hT, m⟩ := H
  exact ⟨T, hA, fun i hi => ⟨Nat.le_trans hm.size (hT i hi).1, (hT i hi).2⟩, hm.then0 m⟩
theorem HH.new (w : World) : Calls Tryd.prog 25 #[] w fun e w' => ∃ h, e = .returned (ptrV h) ∧ HH w h [] w' :=
  (new_c w).mono fun e w' H => by
    obtain ⟨h, he, T, hA, hm, hT⟩ := H
    exact ⟨h, he, T, hA, hT, hm⟩
theorem HH.push (H : HH w0 h C ws) (r : Rk) (id : Int64) {n : Int} (hn : n = id.toInt) (hC : C.length ≤ 700000) (hid : ∀ x ∈ C, x.id ≠ id) : Calls Tryd.prog 33 #[ptrV h, .agg (rkc r), .int .i64 n] ws fun e w' => e = .returned (.int .i64 0) ∧ HH w0 h (C ++ [⟨r, id⟩]) w' := by
  obtain ⟨T, hA, hT, m⟩ := H
  subst hn
  refine (pushH_c hA (fun i hi => (hT i hi).2) r id hC hid).mono ?_
  rintro e w' ⟨he, T', hA', hm, h1, h2⟩
  refine ⟨he, T', hA', fun i hi => ⟨?_, h2 i hi⟩, m.then hm (fun i hi e => by have := (hT i e).1; omega)⟩
  rcases h1 i hi with h | h
  · exact (hT i h).1
  · exact Nat.le_trans m.size h
theorem HH.pushT (H : HH w0 h C ws) (r : Rk) (id : Int64) {n : Int} (hn : n = id.toInt) (hid : ∃ x ∈ C, x.id = id) : Calls Tryd.prog 33 #[ptrV h, .agg (rkc r), .int .i64 n] ws fun e w' => e = .returned (.int .i64 12) ∧ Mod (fun _ => False) ws w' := by
  obtain ⟨T, hA, hT, m⟩ := H
  subst hn
  exact pushT_c hA r id hid
theorem HH.drop (H : HH w0 h C ws) (id : Int64) {n : Int} (hn : n = id.toInt) (hC : C.length ≤ 700000) {x : Nd} (hx : x ∈ C) (hid : x.id = id) : Calls Tryd.prog 31 #[ptrV h, .int .i64 n] ws fun e w' => e = .returned (.tuple #[.agg (rkc x.r), .int .i64 0]) ∧ HH w0 h (C.eraseP (fun y => y.id == id)) w' := by
  obtain ⟨T, hA, hT, m⟩ := H
  subst hn
  refine (dropH_c hA (fun i hi => (hT i hi).2) id hC ⟨x, hx, hid⟩).mono ?_
  rintro e w' ⟨⟨y, hy, hyi, he⟩, hA', hm⟩
  have hxy : y = x := by
    obtain ⟨i, hi⟩ := List.mem_iff_getElem?.1 hx
    obtain ⟨j, hj⟩ := List.mem_iff_getElem?.1 hy
    have hnd := hA.ids
    have e1 : (C.map Nd.id)[i]? = some id := by rw [List.getElem?_map, hi]; simp [hid]
    have e2 : (C.map Nd.id)[j]? = some id := by rw [List.getElem?_map, hj]; simp [hyi]
    have := (List.getElem?_inj (List.getElem?_eq_some_iff.1 e1).1 hnd).1 (e1.trans e2.symm)
    subst this
    rw [hi] at hj
    exact (Option.some.inj hj).symm
  subst hxy
  exact ⟨he, T, hA', fun i hi => ⟨(hT i hi).1, Nat.lt_of_lt_of_le (hT i hi).2 hm.size⟩, m.then hm (fun i hi e => by have := (hT i e).1; omega)⟩
theorem HH.dropN (H : HH w0 h C ws) (id : Int64) {n : Int} (hn : n = id.toInt) (hid : ∀ x ∈ C, x.id ≠ id) : Calls Tryd.prog 31 #[ptrV h, .int .i64 n] ws fun e w' => e = .returned (.tuple #[.agg (rkc rk0), .int .i64 11]) ∧ Mod (fun _ => False) ws w' := by
  obtain ⟨T, hA, hT, m⟩ := H
  subst hn
  exact dropN_c hA id hid
theorem HH.top (H : HH w0 h C ws) {D : List Nd} (hD : D.Perm C) (hS : Srt D) : Calls Tryd.prog 37 #[ptrV h] ws fun e w' => e = .returned (env (enOf D.head?)) ∧ Mod (fun _ => False) ws w' := by
  obtain ⟨T, hA, hT, m⟩ := H
  exact topS_c hA hD hS
theorem HH.bot (H : HH w0 h C ws) {D : List Nd} (hD : D.Perm C) (hS : Srt D) : Calls Tryd.prog 29 #[ptrV h] ws fun e w' => e = .returned (env (enOf D.getLast?)) ∧ Mod (fun _ => False) ws w' := by
  obtain ⟨T, hA, hT, m⟩ := H
  exact botS_c hA hD hS
theorem HH.len (H : HH w0 h C ws) : Calls Tryd.prog 116 #[ptrV h] ws fun e w' => e = .returned (.int .i64 (C.length : Int)) ∧ w' = ws := by
  obtain ⟨T, hA, hT, m⟩ := H
  exact lenH_c hA
theorem HH.list (H : HH w0 h C ws) {D : List Nd} (hD : D.Perm C) (hS : Srt D) (hC : C.length ≤ 700000) : Calls Tryd.prog 35 #[ptrV h] ws fun e w' => ∃ v, e = .returned v ∧ SlOwn ic 1 3 w' ws.heap.size v (D.map Nd.id) ∧ Mod (fun _ => False) ws w' := by
  obtain ⟨T, hA, hT, m⟩ := H
  exact listS_c hA hD hS hC
end
/-- Behind a pass that owns the heap. -/
theorem HH.rt {w0 w1 w2 : World} {h : Nat} {C' : List Nd} {B : Bx} {K : Land} {T TR : Nat → Prop} (hT : ∀ i, T i → w0.heap.size ≤ i) (hm : Mod (fun _ => False) w0 w1) (hr : RT T w1 B K TR w2) (hA : HAt h C' TR w2) : HH w0 h C' w2 := by
  refine ⟨TR, hA, fun i hi => ⟨?_, hr.lt i hi⟩, hm.then hr.mod (fun i hi e => by have := hT i e; omega)⟩
  by_cases h1 : i < w1.heap.size
  · exact hT i (hr.old i h1 hi)
  · have := hm.size
    omega
end Go.Proofs.YtdeghpmlhcaedaaDoor
