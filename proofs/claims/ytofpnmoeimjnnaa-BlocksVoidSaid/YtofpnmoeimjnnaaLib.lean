/- Plain laws over any program: frames of a world, keys of 32 bytes, maps as association lists. -/
import Derived.Maps.Keyed
import Derived.DeepKeys4
import Derived.Below
import Derived.WalkKit
import Derived.WalkSpells
import Derived.Deep.MidRow
import Derived.Deep.Draws
namespace Go.Proofs.Ytofpnmoeimjnnaa
open Go.ChangeMaps (setBlock)
open Go.RowKit
set_option linter.unusedSectionVars false
set_option linter.unusedVariables false
set_option linter.unusedSimpArgs false

/-! ### 1. Frames: what a call may have changed -/
structure Mod (S : Nat → Prop) (w w' : World) : Prop where
  os : w'.os = w.os
  tape : w'.tape = w.tape
  output : w'.output = w.output
  size : w.heap.size ≤ w'.heap.size
  block : ∀ i, i < w.heap.size → ¬ S i → w'.heap[i]? = w.heap[i]?

theorem Mod.refl (S : Nat → Prop) (w : World) : Mod S w w := ⟨rfl, rfl, rfl, Nat.le_refl _, fun _ _ _ => rfl⟩
theorem Mod.trans {S : Nat → Prop} {a b c : World} (h : Mod S a b) (k : Mod S b c) : Mod S a c :=
  ⟨k.os.trans h.os, k.tape.trans h.tape, k.output.trans h.output, Nat.le_trans h.size k.size,
    fun i hi hs => (k.block i (Nat.lt_of_lt_of_le hi h.size) hs).trans (h.block i hi hs)⟩
/-- The second step may change, besides S, what was not there at the start. -/
theorem Mod.then {S T : Nat → Prop} {a b c : World} (h : Mod S a b) (k : Mod T b c) (hT : ∀ i, i < a.heap.size → T i → S i) : Mod S a c :=
  ⟨k.os.trans h.os, k.tape.trans h.tape, k.output.trans h.output, Nat.le_trans h.size k.size,
    fun i hi hs => (k.block i (Nat.lt_of_lt_of_le hi h.size) (fun ht => hs (hT i hi ht))).trans (h.block i hi hs)⟩
theorem Mod.mono {S T : Nat → Prop} {a b : World} (h : Mod S a b) (hT : ∀ i, i < a.heap.size → S i → T i) : Mod T a b :=
  ⟨h.os, h.tape, h.output, h.size, fun i hi hs => h.block i hi (fun hh => hs (hT i hi hh))⟩
theorem Mod.below {S : Nat → Prop} {a b : World} {B : Nat} (h : Mod S a b) (hB : B ≤ a.heap.size) (hS : ∀ i, i < B → ¬ S i) : Below B a b :=
  ⟨h.os, h.tape, h.output, h.size, fun i hi => h.block i (Nat.lt_of_lt_of_le hi hB) (hS i hi)⟩
theorem Mod.of_below {a b : World} (h : Below a.heap.size a b) (S : Nat → Prop) : Mod S a b :=
  ⟨h.os, h.tape, h.output, h.size, fun i hi _ => h.block i hi⟩
theorem Mod.at {S : Nat → Prop} {a b : World} (h : Mod S a b) {i : Nat} {o : Obj} (ho : a.heap[i]? = some o) (hs : ¬ S i) : b.heap[i]? = some o := by
  rw [h.block i (Array.getElem?_eq_some_iff.1 ho).1 hs, ho]
theorem Mod.alloc {S : Nat → Prop} {a b : World} (h : Mod S a b) (o : Obj) : Mod S a (b.alloc o) :=
  ⟨h.os, h.tape, h.output, Nat.le_trans h.size (by rw [show (b.alloc o).heap = b.heap.push o from rfl, Array.size_push]; omega), fun i hi hs => by
    rw [show (b.alloc o).heap = b.heap.push o from rfl, Array.getElem?_push, if_neg (Nat.ne_of_lt (Nat.lt_of_lt_of_le hi h.size)), h.block i hi hs]⟩
theorem Mod.drew {S : Nat → Prop} {a b : World} (h : Mod S a b) : Mod S a b.drew := ⟨h.os, h.tape, h.output, h.size, h.block⟩
theorem Mod.drewN {S : Nat → Prop} {a b : World} (h : Mod S a b) (n : Nat) : Mod S a (b.drewN n) := ⟨h.os, h.tape, h.output, h.size, h.block⟩
theorem Mod.setBlock {S : Nat → Prop} {a b : World} (h : Mod S a b) {r : Nat} (o : Obj) (hr : r < a.heap.size → S r) : Mod S a (setBlock b r o) :=
  ⟨h.os, h.tape, h.output, by simpa [ChangeMaps.setBlock] using h.size, fun i hi hs => by
    rw [show (ChangeMaps.setBlock b r o).heap = b.heap.setIfInBounds r o from rfl,
      Array.getElem?_setIfInBounds_ne (by rintro rfl; exact hs (hr hi)), h.block i hi hs]⟩
theorem Mod.setCell {S : Nat → Prop} {a b : World} (h : Mod S a b) {p : Addr} (v : Value) (hr : p.block < a.heap.size → S p.block) : Mod S a (b.setCell p v) :=
  ⟨h.os, h.tape, h.output, by simpa [World.setCell] using h.size, fun i hi hs => by
    rw [heap_setCell_other b p i v (by rintro rfl; exact hs (hr hi)), h.block i hi hs]⟩
theorem Mod.setCells {S : Nat → Prop} {a b : World} (h : Mod S a b) {r : Nat} (o : Nat) (vs : List Value) (hr : r < a.heap.size → S r) : Mod S a (b.setCells r o vs) := by
  induction vs generalizing o b with
  | nil => exact h
  | cons v r ih => exact ih (h.setCell v hr) (o + 1)

theorem Mod.at_ne {p : Nat} {a b : World} (h : Mod (fun i => i = p) a b) {i : Nat} {o : Obj} (ho : a.heap[i]? = some o) (hs : i ≠ p) : b.heap[i]? = some o := h.at ho hs
theorem Mod.at0 {a b : World} (h : Mod (fun _ => False) a b) {i : Nat} {o : Obj} (ho : a.heap[i]? = some o) : b.heap[i]? = some o := h.at ho (fun h => h)
theorem Mod.then0 {S : Nat → Prop} {a b c : World} (h : Mod S a b) (k : Mod (fun _ => False) b c) : Mod S a c := h.then k (fun _ _ h => h.elim)
theorem Mod.thenB {S : Nat → Prop} {a b c : World} {p : Nat} (h : Mod S a b) (k : Mod (fun i => i = p) b c) (hp : a.heap.size ≤ p ∨ S p) : Mod S a c :=
  h.then k (fun i hi e => by
    cases e
    rcases hp with hp | hp
    · omega
    · exact hp)
theorem ne_of_obj {w : World} {a b : Nat} {o o' : Obj} (ha : w.heap[a]? = some o) (hb : w.heap[b]? = some o') (h : o ≠ o') : a ≠ b := by
  rintro rfl
  rw [ha] at hb
  exact h (Option.some.inj hb)
theorem lt_size {w : World} {b : Nat} {o : Obj} (h : w.heap[b]? = some o) : b < w.heap.size := (Array.getElem?_eq_some_iff.1 h).1
theorem heap_setBlock (w : World) {b : Nat} (o : Obj) (h : b < w.heap.size) : (setBlock w b o).heap[b]? = some o := by
  simp [setBlock, h]
theorem mod_set (w : World) (b : Nat) (o : Obj) : Mod (fun i => i = b) w (setBlock w b o) := (Mod.refl _ w).setBlock o (fun _ => rfl)
theorem heap_setBlock_ne (w : World) {b i : Nat} (o : Obj) (h : i ≠ b) : (setBlock w b o).heap[i]? = w.heap[i]? := by
  simp [setBlock, Ne.symm h]

/-! ### 2. Keys of 32 bytes -/
structure Key where
  l : List UInt8
  h : l.length = 32

theorem Key.ext {a b : Key} (h : a.l = b.l) : a = b := by cases a; cases b; cases h; rfl
instance : DecidableEq Key := fun a b => if h : a.l = b.l then .isTrue (Key.ext h) else .isFalse (fun e => h (e ▸ rfl))

/-- A byte's cell. -/
def bc (b : UInt8) : Value := .int .u8 b.toNat
theorem bc_inj {a b : UInt8} (h : bc a = bc b) : a = b := by
  simp only [bc, Value.int.injEq, true_and] at h
  exact UInt8.toNat_inj.1 (by omega)
/-- A key's cells. -/
def kc (k : Key) : Array Value := (k.l.map bc).toArray
@[simp] theorem kc_size (k : Key) : (kc k).size = 32 := by simp [kc, k.h]
theorem kc_inj {a b : Key} (h : kc a = kc b) : a = b := by
  have h1 : a.l.map bc = b.l.map bc := by simpa [kc] using h
  exact Key.ext (List.map_inj_right (fun _ _ => bc_inj) |>.1 h1)
def kv (k : Key) : Value := .agg (kc k)
theorem kv_inj {a b : Key} (h : kv a = kv b) : a = b := kc_inj (by simpa [kv] using h)

/-! ### 3. A key type: what the runs of a map's operations need -/
structure KeyT {κ : Type} (P : Program) (K : TypeId) (f : κ → Value) : Prop where
  law : Maps.Keyed P K
  lit : ∀ k, ∃ l, keyOf P K (f k) = some l
  inj : ∀ a b, f a = f b → a = b

/-! ### 4. Maps as association lists -/
theorem set_same {α : Type} {l : List α} {i : Nat} {a : α} (h : l[i]? = some a) : l.set i a = l := by
  apply List.ext_getElem?; intro j; simp [List.getElem?_set]; grind
theorem modify_at {α : Type} {l : List α} {j : Nat} (f : α → α) {e : α} (h : l[j]? = some e) : l.modify j f = l.set j (f e) := by
  apply List.ext_getElem?; intro i; simp [List.getElem?_modify, List.getElem?_set]; grind
section
variable {κ ν : Type} [DecidableEq κ]

def lkp (k : κ) : List (κ × ν) → Option ν
  | [] => none
  | p :: r => if p.1 = k then some p.2 else lkp k r
def put (k : κ) (v : ν) : List (κ × ν) → List (κ × ν)
  | [] => [(k, v)]
  | p :: r => if p.1 = k then (k, v) :: r else p :: put k v r
def del (k : κ) : List (κ × ν) → List (κ × ν)
  | [] => []
  | p :: r => if p.1 = k then r else p :: del k r

theorem lkp_put_same (k : κ) (v : ν) (m : List (κ × ν)) : lkp k (put k v m) = some v := by
  induction m with
  | nil => simp [put, lkp]
  | cons p r ih => unfold put; split <;> simp_all [lkp]
theorem lkp_put_ne {k j : κ} (h : j ≠ k) (v : ν) (m : List (κ × ν)) : lkp j (put k v m) = lkp j m := by
  induction m with
  | nil => simp [put, lkp, Ne.symm h]
  | cons p r ih =>
    unfold put; split
    · rename_i hp; subst hp; simp [lkp, Ne.symm h]
    · simp [lkp, ih]
theorem lkp_put (k j : κ) (v : ν) (m : List (κ × ν)) : lkp j (put k v m) = if j = k then some v else lkp j m := by
  by_cases h : j = k
  · subst h; simp [lkp_put_same]
  · simp [h, lkp_put_ne h]
theorem mem_keys_put (k : κ) (v : ν) (m : List (κ × ν)) (x : κ) : x ∈ (put k v m).map Prod.fst ↔ x = k ∨ x ∈ m.map Prod.fst := by
  induction m with
  | nil => simp [put]
  | cons p r ih =>
    unfold put; split
    · rename_i hp; subst hp; simp
    · simp only [List.map_cons, List.mem_cons, ih]; constructor
      · rintro (h | h | h) <;> simp [h]
      · rintro (h | h | h) <;> simp [h]
theorem nodup_put {m : List (κ × ν)} (h : (m.map Prod.fst).Nodup) (k : κ) (v : ν) : ((put k v m).map Prod.fst).Nodup := by
  induction m with
  | nil => simp [put]
  | cons p r ih =>
    simp only [List.map_cons, List.nodup_cons] at h
    unfold put; split
    · rename_i hp; subst hp; simpa using h
    · rename_i hp
      simp only [List.map_cons, List.nodup_cons, mem_keys_put]
      exact ⟨fun h' => h'.elim (fun e => hp e) h.1, ih h.2⟩
theorem lkp_none_iff (k : κ) (m : List (κ × ν)) : lkp k m = none ↔ k ∉ m.map Prod.fst := by
  induction m with
  | nil => simp [lkp]
  | cons p r ih =>
    unfold lkp; split
    · rename_i h; simp [h]
    · rename_i h; simp [ih, Ne.symm h]
theorem del_sub (k : κ) (m : List (κ × ν)) : (del k m).Sublist m := by
  induction m with
  | nil => simp [del]
  | cons p r ih => unfold del; split; exact List.sublist_cons_self _ _; exact ih.cons_cons p
theorem nodup_del {m : List (κ × ν)} (h : (m.map Prod.fst).Nodup) (k : κ) : ((del k m).map Prod.fst).Nodup :=
  h.sublist ((del_sub k m).map _)
theorem lkp_del {m : List (κ × ν)} (h : (m.map Prod.fst).Nodup) (k j : κ) : lkp j (del k m) = if j = k then none else lkp j m := by
  induction m with
  | nil => simp [del, lkp]
  | cons p r ih =>
    simp only [List.map_cons, List.nodup_cons] at h
    unfold del; split
    · rename_i hp
      subst hp
      by_cases hj : j = p.1
      · subst hj; simp [(lkp_none_iff _ _).2 h.1]
      · simp [hj, lkp, Ne.symm hj]
    · rename_i hp
      simp only [lkp, ih h.2]
      by_cases hj : j = k
      · subst hj; simp [hp]
      · simp [hj]
theorem lkp_mem {m : List (κ × ν)} {k : κ} {v : ν} (h : lkp k m = some v) : (k, v) ∈ m := by
  induction m with
  | nil => simp [lkp] at h
  | cons p r ih =>
    unfold lkp at h; split at h
    · rename_i hp; subst hp; cases h; simp
    · exact List.mem_cons_of_mem _ (ih h)
theorem lkp_of_mem {m : List (κ × ν)} (hn : (m.map Prod.fst).Nodup) {k : κ} {v : ν} (h : (k, v) ∈ m) : lkp k m = some v := by
  induction m with
  | nil => cases h
  | cons p r ih =>
    simp only [List.map_cons, List.nodup_cons] at hn
    rcases List.mem_cons.1 h with rfl | h
    · simp [lkp]
    · unfold lkp; rw [if_neg, ih hn.2 h]
      intro e
      exact hn.1 (e ▸ List.mem_map.2 ⟨_, h, rfl⟩)

/-- The block's entries read as the list m. -/
structure MapIs (f : κ → Value) (g : ν → Value) (es : Array MapEntry) (clock : Nat) (m : List (κ × ν)) : Prop where
  ents : es.toList.map (fun e => (e.key, e.val)) = m.map (fun p => (f p.1, g p.2))
  nodup : (m.map Prod.fst).Nodup
  lt : ∀ e ∈ es.toList, e.born < clock
  apart : (es.toList.map (·.born)).Nodup

def World.mapAt (w : World) (b : Nat) (f : κ → Value) (g : ν → Value) (m : List (κ × ν)) : Prop :=
  ∃ es clock, w.heap[b]? = some (.map es clock) ∧ MapIs f g es clock m

variable {P : Program} {T K E : TypeId} {f : κ → Value} {g : ν → Value}

theorem MapIs.size {es : Array MapEntry} {clock : Nat} {m : List (κ × ν)} (h : MapIs f g es clock m) : es.size = m.length := by
  have := congrArg List.length h.ents
  simpa using this

theorem MapIs.get {es : Array MapEntry} {clock : Nat} {m : List (κ × ν)} (h : MapIs f g es clock m) {j : Nat} {e : MapEntry} (he : es.toList[j]? = some e) :
    ∃ p, m[j]? = some p ∧ e.key = f p.1 ∧ e.val = g p.2 := by
  have := congrArg (fun l => l[j]?) h.ents
  simp only [List.getElem?_map, he, Option.map_some] at this
  cases hm : m[j]? with
  | none => simp [hm] at this
  | some p => simp only [hm, Option.map_some, Option.some.injEq, Prod.mk.injEq] at this; exact ⟨p, rfl, this.1, this.2⟩

theorem MapIs.keys {es : Array MapEntry} {clock : Nat} {m : List (κ × ν)} (h : MapIs f g es clock m) (hk : KeyT P K f) : ∀ e ∈ es.toList, ∃ l, keyOf P K e.key = some l := by
  intro e he
  obtain ⟨j, hj⟩ := List.mem_iff_getElem?.1 he
  obtain ⟨p, _, hp, _⟩ := h.get hj
  rw [hp]; exact hk.lit p.1

theorem lkp_getElem {m : List (κ × ν)} (hn : (m.map Prod.fst).Nodup) {j : Nat} {p : κ × ν} (h : m[j]? = some p) : lkp p.1 m = some p.2 :=
  lkp_of_mem hn (List.mem_of_getElem? h)

/-- Where a key is: nowhere, or at one place. -/
theorem MapIs.find {es : Array MapEntry} {clock : Nat} {m : List (κ × ν)} (h : MapIs f g es clock m) (hk : KeyT P K f) (w : World) (k : κ) :
    (lkp k m = none ∧ (Instr.findKey K (f k) es.toList).run P w = .ok none w) ∨
    ∃ j v e, m[j]? = some (k, v) ∧ es.toList[j]? = some e ∧ e.key = f k ∧ e.val = g v ∧ lkp k m = some v ∧
      (Instr.findKey K (f k) es.toList).run P w = .ok (some (j, g v)) w := by
  obtain ⟨l, hl⟩ := hk.lit k
  rcases hk.law.find w hl es.toList (h.keys hk) with ⟨h1, h2⟩ | ⟨j, e, h1, h2, h3⟩
  · refine .inl ⟨?_, h1⟩
    rw [lkp_none_iff]
    intro hmem
    obtain ⟨p, hp, rfl⟩ := List.mem_map.1 hmem
    obtain ⟨j, hj⟩ := List.mem_iff_getElem?.1 hp
    have := congrArg (fun l => l[j]?) h.ents
    simp only [List.getElem?_map, hj, Option.map_some] at this
    cases he : es.toList[j]? with
    | none => simp [he] at this
    | some e =>
      simp only [he, Option.map_some, Option.some.injEq, Prod.mk.injEq] at this
      exact h2 e (List.mem_of_getElem? he) this.1
  · obtain ⟨p, hp, hpk, hpv⟩ := h.get h2
    have : p.1 = k := hk.inj _ _ (by rw [← hpk, h3])
    subst this
    exact .inr ⟨j, p.2, e, hp, h2, h3, hpv, lkp_getElem h.nodup hp, by rw [h1, hpv]⟩

theorem MapIs.lookup {es : Array MapEntry} {clock : Nat} {m : List (κ × ν)} (h : MapIs f g es clock m) (hk : KeyT P K f) (hT : P.underlying T = some (.map K E))
    {z : Value} (hz : ∀ w, (zeroValue E).run P w = .ok z w) (w : World) {b : Nat} (hb : w.heap[b]? = some (.map es clock)) (k : κ) (c : Bool) :
    (Instr.lookup T (.map (some b)) (f k) c).run P w =
      .ok (if c then .tuple #[((lkp k m).map g).getD z, .bool (lkp k m).isSome] else ((lkp k m).map g).getD z) w := by
  obtain ⟨l, hl⟩ := hk.lit k
  rcases h.find hk w k with ⟨h1, h2⟩ | ⟨j, v, e, _, _, _, _, h1, h2⟩
  · simp [Instr.lookup, run_underlying hT, MapKept.run_getObj_map hb, hk.law.check w _ hl, h2, h1, hz, Result.andThen]
  · simp [Instr.lookup, run_underlying hT, MapKept.run_getObj_map hb, hk.law.check w _ hl, h2, h1, Result.andThen]

theorem put_none {k : κ} {v : ν} {m : List (κ × ν)} (h : lkp k m = none) : put k v m = m ++ [(k, v)] := by
  induction m with
  | nil => rfl
  | cons p r ih =>
    unfold lkp at h; split at h
    · cases h
    · rename_i hp; simp [put, hp, ih h]
theorem put_at {k : κ} {v u : ν} {m : List (κ × ν)} (hn : (m.map Prod.fst).Nodup) {j : Nat} (h : m[j]? = some (k, u)) : put k v m = m.set j (k, v) := by
  induction m generalizing j with
  | nil => simp at h
  | cons p r ih =>
    simp only [List.map_cons, List.nodup_cons] at hn
    cases j with
    | zero => simp at h; subst h; simp [put]
    | succ j =>
      simp only [List.getElem?_cons_succ] at h
      have : p.1 ≠ k := fun e => hn.1 (e ▸ List.mem_map.2 ⟨_, List.mem_of_getElem? h, rfl⟩)
      simp [put, this, ih hn.2 h]
theorem del_at {k : κ} {u : ν} {m : List (κ × ν)} (hn : (m.map Prod.fst).Nodup) {j : Nat} (h : m[j]? = some (k, u)) : del k m = m.eraseIdx j := by
  induction m generalizing j with
  | nil => simp at h
  | cons p r ih =>
    simp only [List.map_cons, List.nodup_cons] at hn
    cases j with
    | zero => simp at h; subst h; simp [del]
    | succ j =>
      simp only [List.getElem?_cons_succ] at h
      have : p.1 ≠ k := fun e => hn.1 (e ▸ List.mem_map.2 ⟨_, List.mem_of_getElem? h, rfl⟩)
      simp [del, this, ih hn.2 h]
theorem del_none {k : κ} {m : List (κ × ν)} (h : lkp k m = none) : del k m = m := by
  induction m with
  | nil => rfl
  | cons p r ih =>
    unfold lkp at h; split at h
    · cases h
    · rename_i hp; simp [del, hp, ih h]

theorem MapIs.update {es : Array MapEntry} {clock : Nat} {m : List (κ × ν)} (h : MapIs f g es clock m) (hk : KeyT P K f) (hT : P.underlying T = some (.map K E))
    (w : World) {b : Nat} (hb : w.heap[b]? = some (.map es clock)) (k : κ) (v : ν) :
    ∃ es' clock', (Instr.mapUpdate T (.map (some b)) (f k) (g v)).run P w = .ok () (setBlock w b (.map es' clock')) ∧ MapIs f g es' clock' (put k v m) := by
  obtain ⟨l, hl⟩ := hk.lit k
  rcases h.find hk w k with ⟨h1, h2⟩ | ⟨j, u, e, hm, he, hek, _, h1, h2⟩
  · refine ⟨es.push { key := f k, val := g v, born := clock }, clock + 1, ?_, ?_, nodup_put h.nodup k v, ?_, ?_⟩
    · simp [Instr.mapUpdate, run_underlying hT, MapKept.run_getObj_map hb, hk.law.check w _ hl, h2, MapKept.run_setObj_map _ hb, Result.andThen, ChangeMaps.setBlock]
    · simp [put_none h1, h.ents]
    · intro e he
      simp only [Array.toList_push, List.mem_append, List.mem_singleton] at he
      rcases he with he | rfl
      · exact Nat.lt_succ_of_lt (h.lt e he)
      · exact Nat.lt_succ_self _
    · simp only [Array.toList_push, List.map_append, List.map_cons, List.map_nil]
      rw [List.nodup_append]
      refine ⟨h.apart, by simp, ?_⟩
      intro a ha b' hb' e
      simp only [List.mem_singleton] at hb'
      obtain ⟨x, hx, rfl⟩ := List.mem_map.1 ha
      have := h.lt x hx
      omega
  · have hes : es[j]? = some e := by simpa using he
    have hset : (es.modify j fun e => { e with key := f k, val := g v }).toList = es.toList.set j { e with key := f k, val := g v } := by
      rw [Array.toList_modify, modify_at _ he]
    refine ⟨es.modify j fun e => { e with key := f k, val := g v }, clock, ?_, ?_, nodup_put h.nodup k v, ?_, ?_⟩
    · simp [Instr.mapUpdate, run_underlying hT, MapKept.run_getObj_map hb, hk.law.check w _ hl, h2, hes, hek, hk.law.stays w hl, MapKept.run_setObj_map _ hb, Result.andThen, ChangeMaps.setBlock]
    · rw [hset, put_at h.nodup hm, List.map_set, List.map_set, h.ents]
    · rw [hset]
      intro x hx
      rcases List.mem_or_eq_of_mem_set hx with hx | rfl
      · exact h.lt x hx
      · exact h.lt e (List.mem_of_getElem? he)
    · rw [hset, List.map_set]
      have : (es.toList.map (·.born)).set j e.born = es.toList.map (·.born) := by
        exact set_same (by simp [he])
      rw [show ({ e with key := f k, val := g v } : MapEntry).born = e.born from rfl, this]
      exact h.apart

theorem MapIs.delete {es : Array MapEntry} {clock : Nat} {m : List (κ × ν)} (h : MapIs f g es clock m) (hk : KeyT P K f) (hT : P.underlying T = some (.map K E)) {ty : TypeId}
    (w : World) {b : Nat} (hb : w.heap[b]? = some (.map es clock)) (k : κ) :
    ∃ es', (Builtin.delete_ #[T, K] ty #[.map (some b), f k]).run P w = .ok (.tuple #[]) (setBlock w b (.map es' clock)) ∧ MapIs f g es' clock (del k m) := by
  obtain ⟨l, hl⟩ := hk.lit k
  rcases h.find hk w k with ⟨h1, h2⟩ | ⟨j, u, e, hm, he, hek, _, h1, h2⟩
  · refine ⟨es, ?_, ?_⟩
    · simp [Builtin.delete_, run_underlying hT, MapKept.run_getObj_map hb, hk.law.check w _ hl, h2, MapKept.run_setObj_map _ hb, Result.andThen, ChangeMaps.setBlock]
    · rw [del_none h1]; exact h
  · have hjs : j < es.size := by
      have := (List.getElem?_eq_some_iff.1 he).1
      simpa using this
    have hsub : (es.eraseIdxIfInBounds j).toList = es.toList.eraseIdx j := by
      unfold Array.eraseIdxIfInBounds
      rw [dif_pos hjs]
      simp
    refine ⟨es.eraseIdxIfInBounds j, ?_, ?_, nodup_del h.nodup k, ?_, ?_⟩
    · simp [Builtin.delete_, run_underlying hT, MapKept.run_getObj_map hb, hk.law.check w _ hl, h2, MapKept.run_setObj_map _ hb, Result.andThen, ChangeMaps.setBlock]
    · rw [hsub, del_at h.nodup hm, ChangeMaps.map_eraseIdx, ChangeMaps.map_eraseIdx, h.ents]
    · rw [hsub]
      intro x hx
      exact h.lt x ((List.eraseIdx_sublist _ _).subset hx)
    · rw [hsub]
      exact h.apart.sublist ((List.eraseIdx_sublist _ _).map _)

theorem MapIs.lookupD {es : Array MapEntry} {clock : Nat} {m : List (κ × ν)} (h : MapIs f g es clock m) (hk : KeyT P K f) (hT : P.underlying T = some (.map K E))
    {z : ν} (hz : ∀ w, (zeroValue E).run P w = .ok (g z) w) (w : World) {b : Nat} (hb : w.heap[b]? = some (.map es clock)) (k : κ) :
    (Instr.lookup T (.map (some b)) (f k) false).run P w = .ok (g ((lkp k m).getD z)) w := by
  rw [h.lookup hk hT hz w hb k false]
  cases lkp k m <;> rfl
theorem MapIs.empty (f : κ → Value) (g : ν → Value) : MapIs f g #[] 0 ([] : List (κ × ν)) := ⟨rfl, by simp, by simp, by simp⟩

theorem MapIs.len {es : Array MapEntry} {clock : Nat} {m : List (κ × ν)} (h : MapIs f g es clock m) (hT : P.underlying T = some (.map K E)) {ty : TypeId}
    (w : World) {b : Nat} (hb : w.heap[b]? = some (.map es clock)) :
    (Builtin.len_ #[T] ty #[.map (some b)]).run P w = .ok (.int .i64 m.length) w := by
  simp [Builtin.len_, run_underlying hT, MapKept.run_getObj_map hb, Result.andThen, goInt, h.size]
end
end Go.Proofs.Ytofpnmoeimjnnaa
