/- Slices of elements of one kind, read and owned: laws over any element. -/
import Derived.Test.YtleenmldlbccmaaActs
import Derived.Test.YtleenmldlbccmaaOwn
import Derived.SizedLaws
namespace Go.Proofs.Ytleenmldlbccmaa
set_option linter.unusedVariables false
set_option linter.unusedSimpArgs false
set_option linter.unusedSectionVars false
open Go.ChangeShapes Go.WideShapes Go.ChangeAt Go.RowKit
/-- A slice: where it lies, what it holds, its capacity. -/
structure Sl (α : Type) where
  a : Option Addr
  l : List α
  c : Nat
def Sl.v {α : Type} (s : Sl α) : Value := .slice s.a s.l.length s.c
section
variable {α : Type} {f : α → Array Value} {n : Nat}
/-- The elements l lie at a. -/
def SlAt (f : α → Array Value) (n : Nat) (w : World) (a : Option Addr) (l : List α) : Prop :=
  l = [] ∨ ∃ b o C U fr, a = some ⟨b, o, none⟩ ∧ w.heap[b]? = some (.cells C U fr) ∧
    ∀ i x, l[i]? = some x → C.extract (o + i * n) (o + i * n + n) = f x ∧ o + i * n + n ≤ C.size
theorem SlAt.mod {w w' : World} {a : Option Addr} {l : List α} {S : Nat → Prop} (h : SlAt f n w a l) (hm : Mod S w w') (hS : ∀ b o, a = some ⟨b, o, none⟩ → ¬ S b) : SlAt f n w' a l := by
  rcases h with h | ⟨b, o, C, U, fr, ha, hb, hc⟩
  · exact .inl h
  · exact .inr ⟨b, o, C, U, fr, ha, hm.at hb (hS b o ha), hc⟩
theorem SlAt.mod0 {w w' : World} {a : Option Addr} {l : List α} (h : SlAt f n w a l) (hm : Mod (fun _ => False) w w') : SlAt f n w' a l := h.mod hm (fun _ _ _ h => h)
/-- What changes maps alone leaves it. -/
theorem SlAt.modM {w w' : World} {a : Option Addr} {l : List α} {S : Nat → Prop} (h : SlAt f n w a l) (hm : Mod S w w') (hS : ∀ b, S b → ∀ C U fr, w.heap[b]? ≠ some (.cells C U fr)) : SlAt f n w' a l := by
  rcases h with h | ⟨b, o, C, U, fr, ha, hb, hc⟩
  · exact .inl h
  · exact .inr ⟨b, o, C, U, fr, ha, hm.at hb (fun hs => hS b hs _ _ _ hb), hc⟩
theorem SlAt.block {w : World} {a : Option Addr} {l : List α} (h : SlAt f n w a l) {i : Nat} {x : α} (hx : l[i]? = some x) : ∃ b o C U fr, a = some ⟨b, o, none⟩ ∧ w.heap[b]? = some (.cells C U fr) ∧
    C.extract (o + i * n) (o + i * n + n) = f x ∧ o + i * n + n ≤ C.size := by
  rcases h with rfl | ⟨b, o, C, U, fr, ha, hb, hc⟩
  · simp at hx
  · exact ⟨b, o, C, U, fr, ha, hb, hc i x hx⟩
theorem cell_in {w : World} {b o n : Nat} {C : Array Value} {U : TypeId} {fr : Nat × Nat} {cs : Array Value} (hb : w.heap[b]? = some (.cells C U fr)) (he : C.extract o (o + n) = cs) {j : Nat} {v : Value} (hj : cs[j]? = some v) :
    w.cell? ⟨b, o + j, none⟩ = some v := by
  subst he
  rw [Array.getElem?_extract] at hj
  split at hj
  · unfold World.cell?
    rw [hb]
    simpa using hj
  · cases hj
theorem cellC {o n : Nat} {C cs : Array Value} (he : C.extract o (o + n) = cs) {j : Nat} {v : Value} (hj : cs[j]? = some v) : C[o + j]? = some v := by
  subst he
  rw [Array.getElem?_extract] at hj
  split at hj
  · exact hj
  · cases hj
end
section
variable {H : Type} {enc : TypeId × Value → H} {α β : Type} {P : Program}
abbrev fits (P : Program) (t : TypeId) (d : DataW H) : Prop := ∀ n ∈ d.weights P t, n ≤ reachBytes
/-- Each reading at type t is an f a, with Ok. -/
def Reads (enc : TypeId × Value → H) (P : Program) (t : TypeId) (f : α → Array Value) (Ok : World → α → Prop) : Prop :=
  ∀ (w : World) (base : Nat) (sp : Nat → Bool) (held : Bool) (fuel : Nat) (cs : List Value) (x : DataW H × List MemPlace), DataW.trod enc P w base sp held fuel t cs = some x → fits P t x.1 → ∃ a : α, cs.toArray = f a ∧ Ok w a
def slv (s : Sl α) : Array Value := #[s.v]
def SlOk (f : α → Array Value) (n B : Nat) (Ok : World → α → Prop) (w : World) (s : Sl α) : Prop :=
  SlAt f n w s.a s.l ∧ (∀ x ∈ s.l, Ok w x) ∧ s.l.length * B ≤ reachBytes ∧ (∀ y, s.a = some y → y.block < w.heap.size ∨ s.l = []) ∧ s.l.length ≤ maxLen
theorem weights_all {t : TypeId} : ∀ {ds : List (DataW H)} {d : DataW H}, d ∈ ds → ∀ n ∈ d.weights P t, n ∈ DataW.weightsAll P t ds
  | d0 :: ds, d, hd, n, hn => by
    simp only [DataW.weightsAll, List.mem_append]
    rcases List.mem_cons.1 hd with rfl | hd
    · exact .inl hn
    · exact .inr (weights_all hd n hn)
theorem slice_reads {t e : TypeId} {f : α → Array Value} {n B : Nat} {Ok : World → α → Prop} (ht : P.underlying t = some (.slice e)) (hn : P.cellsOf e = n) (hB : P.bytesOf e = B) (hn0 : 0 < n) (h : Reads enc P e f Ok) (d0 : α) :
    Reads enc P t (slv (α := α)) (SlOk f n B Ok) := by
  intro w base sp held fuel cs x hx hfit
  rcases DataW.trod_slice ht hx with ⟨rfl, rfl⟩ | ⟨a, len, cap, elems, rest, m, rfl, rfl, rfl, _, hlc, hcm, hel, hi, _⟩
  · exact ⟨⟨none, [], 0⟩, rfl, .inl rfl, fun x hx => (by simp at hx), by simp, fun y hy => (by cases hy), by simp⟩
  · have hrow : ∀ i, i < len → ∃ r : α, Ok w r ∧ ∃ (C : Array Value) (U : TypeId) (fr : Nat × Nat), a = ⟨a.block, a.off, none⟩ ∧ w.heap[a.block]? = some (.cells C U fr) ∧ C.extract (a.off + i * n) (a.off + i * n + n) = f r ∧ a.off + i * n + n ≤ C.size := fun i hlt => by
      have hq := hi i hlt
      rw [List.getElem?_eq_getElem (by omega), hn, Option.bind_eq_some_iff] at hq
      obtain ⟨c1, hc1, ht1⟩ := hq
      have hf1 : fits P e (elems[i].1) := fun k hk => hfit k (by
        simp only [DataW.weights, ht, List.mem_cons, List.mem_append]
        exact .inr (.inl (weights_all (List.mem_map.2 ⟨_, List.getElem_mem _, rfl⟩) k hk)))
      obtain ⟨r, hr, hok⟩ := h _ _ _ _ _ _ _ ht1 hf1
      obtain ⟨_, C, U, fr, ha, hb, he, hsz⟩ := cells_row hc1 hn0
      rw [hr] at he
      unfold Addr.add at ha hb he hsz
      by_cases h0 : i * n = 0
      · rw [if_pos h0] at ha hb he hsz
        exact ⟨r, hok, C, U, fr, ha, hb, by rw [h0]; exact he, by omega⟩
      · rw [if_neg h0] at ha hb he hsz
        have hi0 : 0 < i := by
          rcases Nat.eq_zero_or_pos i with rfl | h
          · simp at h0
          · exact h
        have hq0 := hi 0 (by omega)
        rw [List.getElem?_eq_getElem (by omega), hn, Option.bind_eq_some_iff] at hq0
        obtain ⟨c2, hc2, _⟩ := hq0
        obtain ⟨_, _, _, _, ha2, _⟩ := cells_row hc2 hn0
        have ha3 : a = ⟨a.block, a.off, none⟩ := by
          unfold Addr.add at ha2
          rw [if_pos (by simp)] at ha2
          exact ha2
        exact ⟨r, hok, C, U, fr, ha3, hb, he, hsz⟩
    let g : Nat → α := fun i => if hlt : i < len then (hrow i hlt).choose else d0
    have hg : ∀ i (hlt : i < len), g i = (hrow i hlt).choose := fun i hlt => by
      show (if hlt : i < len then (hrow i hlt).choose else _) = _
      rw [dif_pos hlt]
    refine ⟨⟨some a, (List.range len).map g, cap⟩, by simp [slv, Sl.v], ?_, fun x hx => ?_, ?_, fun x hx => ?_, by simp; omega⟩
    · by_cases hz : len = 0
      · subst hz
        exact .inl rfl
      · obtain ⟨r0, _, C, U, fr, ha, hb, _, _⟩ := hrow 0 (by omega)
        refine .inr ⟨a.block, a.off, C, U, fr, congrArg some ha, hb, fun i r hr => ?_⟩
        rw [List.getElem?_map] at hr
        by_cases hlt : i < len
        · rw [List.getElem?_range hlt] at hr
          simp only [Option.map_some, Option.some.injEq] at hr
          subst hr
          obtain ⟨_, C', U', fr', _, hb', he, hsz⟩ := (hrow i hlt).choose_spec
          rw [hb] at hb'
          cases hb'
          rw [hg i hlt]
          exact ⟨he, hsz⟩
        · rw [List.getElem?_eq_none (by simp; omega)] at hr
          simp at hr
    · obtain ⟨i, hi2, rfl⟩ := List.mem_map.1 hx
      have hlt := List.mem_range.1 hi2
      rw [hg i hlt]
      exact (hrow i hlt).choose_spec.1
    · have := hfit ((elems.length + rest.length) * B) (by
        simp only [DataW.weights, ht, List.mem_cons, List.length_map, hB]
        exact .inl trivial)
      have h2 : len * B ≤ (elems.length + rest.length) * B := Nat.mul_le_mul_right _ (by omega)
      simp only [List.length_map, List.length_range]
      omega
    · cases hx
      by_cases hz : len = 0
      · subst hz
        exact .inr rfl
      · obtain ⟨r0, _, C, U, fr, ha, hb, _, _⟩ := hrow 0 (by omega)
        exact .inl (lt_size hb)
theorem fits_field {t : TypeId} {fs : Array Field} {parts : List (DataW H)} (ht : P.underlying t = some (.struct fs)) (hfit : fits P t (.agg parts)) {i : Nat} {fl : Field} {d : DataW H} (hf : fs[i]? = some fl) (hd : parts[i]? = some d) : fits P fl.type d := fun k hk => hfit k (by
  simp only [DataW.weights, ht]
  exact DataW.weights_mem_each (j := i) (by simp [hf]) hd k hk)
/-- Of a list of arguments each fits. -/
theorem fits_arg {ts : List TypeId} {ds : List (DataW H)} (h : (DataW.weightsEach P ts ds).all (· ≤ reachBytes) = true) {j : Nat} {t : TypeId} {d : DataW H} (ht : ts[j]? = some t) (hd : ds[j]? = some d) : fits P t d := fun k hk => by
  have := List.all_eq_true.1 h _ (DataW.weights_mem_each ht hd k hk)
  simpa using this
theorem reach_small {n B : Nat} (h : n * B ≤ reachBytes) (hB : 0 < B) : n ≤ 140737488355328 := by
  have := reachBytes_lt
  have h2 : n * 1 ≤ n * B := Nat.mul_le_mul_left _ hB
  have : n < 2 ^ 47 := by omega
  exact Nat.le_of_lt this
end
/-! Lists of roles, of acts. -/
def rcr (r : Role) : Array Value := rc r.k r.s r.w
theorem RolesAt.sl {w : World} {a : Option Addr} {l : List Role} : RolesAt w a l ↔ SlAt rcr 34 w a l := Iff.rfl
section
variable {H : Type} {enc : TypeId × Value → H}
theorem role_reads : Reads enc Try.prog 44 rcr (fun _ _ => True) := fun w base sp held fuel cs x h _ => by
  obtain ⟨r, hr⟩ := role_of h
  exact ⟨r, hr, trivial⟩
structure Act' where
  back : Bool
  s : Sl Role
  n : Int
def acv (x : Act') : Array Value := #[.bool x.back, x.s.v, .int .i64 x.n]
def ActOk' (w : World) (x : Act') : Prop := SlOk rcr 34 34 (fun _ _ => True) w x.s ∧ -9223372036854775808 ≤ x.n ∧ x.n ≤ 9223372036854775807
def role0 : Role := ⟨⟨List.replicate 32 0, rfl⟩, false, false⟩
theorem roles_reads : Reads enc Try.prog 23 (slv (α := Role)) (SlOk rcr 34 34 (fun _ _ => True)) :=
  slice_reads Try.underlying23 (by kernel_rfl) (by kernel_rfl) (by omega) role_reads role0
theorem act_reads : Reads enc Try.prog 34 acv ActOk' := fun w base sp held fuel cs x h hfit => by
  obtain ⟨xs, m, rfl, rfl, hl, hx, hi⟩ := DataW.trod_struct Try.underlying34 h
  have hl : cs.length = 3 := hl.trans (by kernel_rfl)
  have hx : xs.length = 3 := hx
  have h0 : DataW.trod enc Try.prog w base sp held m 4 ((cs.drop 0).take (Try.prog.cellsOf 4)) = xs[0]? := hi 0 _ rfl
  have h1 : DataW.trod enc Try.prog w base sp held m 23 ((cs.drop 1).take (Try.prog.cellsOf 23)) = xs[1]? := hi 1 _ rfl
  have h2 : DataW.trod enc Try.prog w base sp held m 3 ((cs.drop 2).take (Try.prog.cellsOf 3)) = xs[2]? := hi 2 _ rfl
  rw [List.getElem?_eq_getElem (by omega)] at h0 h1 h2
  rw [show Try.prog.cellsOf 4 = 1 by kernel_rfl] at h0
  rw [show Try.prog.cellsOf 23 = 1 by kernel_rfl] at h1
  rw [show Try.prog.cellsOf 3 = 1 by kernel_rfl] at h2
  obtain ⟨b, hb, _⟩ := DataW.trod_bool Try.underlying4 h0
  have hf1 : fits Try.prog 23 (xs[1].1) := fits_field (i := 1) (d := xs[1].1) (fl := _) Try.underlying34 hfit rfl (by rw [List.getElem?_map, List.getElem?_eq_getElem (by omega)]; rfl)
  obtain ⟨s, hs, hok⟩ := roles_reads _ _ _ _ _ _ _ h1 hf1
  obtain ⟨n, hn, _, hw⟩ := DataW.trod_int Try.underlying3 h2
  refine ⟨⟨b, s, n⟩, ?_, hok, bounds_i64 hw⟩
  have e : cs = (cs.drop 0).take 1 ++ ((cs.drop 1).take 1 ++ (cs.drop 2).take 1) := by
    have e3 : (cs.drop 2).take 1 = cs.drop 2 := List.take_of_length_le (by simp [hl])
    rw [e3, show cs.drop 2 = (cs.drop 1).drop 1 by simp, List.take_append_drop, List.drop_zero, List.take_append_drop]
  have hs' : (cs.drop 1).take 1 = [s.v] := by
    have := congrArg Array.toList hs
    simpa [slv] using this
  rw [hb, hs', hn] at e
  rw [e]
  rfl
theorem acts_reads : Reads enc Try.prog 22 (slv (α := Act')) (SlOk acv 3 40 ActOk') :=
  slice_reads Try.underlying22 (by kernel_rfl) (by kernel_rfl) (by omega) act_reads ⟨false, ⟨none, [], 0⟩, 0⟩
end
end Go.Proofs.Ytleenmldlbccmaa
