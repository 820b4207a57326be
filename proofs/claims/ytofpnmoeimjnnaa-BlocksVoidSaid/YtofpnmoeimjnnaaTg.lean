/- A region by one pass, with any number of effects, each told by what it knows of the blocks that it owns: values and reads, new boxes, stores into these, and effects (calls above all), which the text's own edges put in order. -/
import Derived.Test.YtofpnmoeimjnnaaReg
namespace Go.Proofs.Ytofpnmoeimjnnaa
open Go.ChangeMaps (setBlock)
set_option linter.unusedVariables false
set_option linter.unusedSimpArgs false
set_option linter.unusedSectionVars false

/-! ### 1. What is known of blocks that are owned -/
abbrev Land := (Nat → Prop) → World → Prop
/-- What is known hangs on the owned blocks alone. -/
def Closed (K : Land) : Prop := ∀ T w w', K T w → Mod (fun i => ¬ T i) w w' → K T w'

/-- The world inside the region. -/
structure RT (T0 : Nat → Prop) (w0 : World) (B : Bx) (K : Land) (T : Nat → Prop) (w : World) : Prop where
  k : K T w
  lt : ∀ i, T i → i < w.heap.size
  old : ∀ i, i < w0.heap.size → T i → T0 i
  mod : Mod T0 w0 w
  box : ∀ p b, B p = some b → w0.heap.size ≤ p ∧ ¬ T p ∧ w.heap[p]? = some (.cells b.cells b.ty (0, 0))
def RG (T0 : Nat → Prop) (w0 : World) (B : Bx) (K : Land) (w : World) : Prop := ∃ T, RT T0 w0 B K T w
def Inh (T0 : Nat → Prop) (w0 : World) (B : Bx) (K : Land) : Prop := ∃ w, RG T0 w0 B K w

section
variable {T0 : Nat → Prop} {w0 : World}
theorem RT.none {B : Bx} {K : Land} {T : Nat → Prop} {w : World} (h : RT T0 w0 B K T w) : B w.heap.size = Option.none := by
  cases hb : B w.heap.size with
  | none => rfl
  | some b => have := lt_size (h.box _ _ hb).2.2; omega
theorem RT.alloc {B : Bx} {K : Land} {T : Nat → Prop} {w : World} (hK : Closed K) (h : RT T0 w0 B K T w) (z : Array Value) (ty : TypeId) (d : Tmp) : RT T0 w0 (B.set w.heap.size ⟨z, ty, d⟩) K T (w.alloc (.cells z ty)) where
  k := hK T w _ h.k ((Mod.refl _ w).alloc _)
  lt i hi := Nat.lt_of_lt_of_le (h.lt i hi) ((Mod.refl (fun _ => False) w).alloc (.cells z ty)).size
  old := h.old
  mod := h.mod.alloc _
  box p b hb := by
    unfold Bx.set at hb
    split at hb
    · rename_i hp
      subst hp
      cases hb
      exact ⟨h.mod.size, fun hT => by have := h.lt _ hT; omega, by rw [heap_alloc_new]⟩
    · have := h.box p b hb
      exact ⟨this.1, this.2.1, by rw [heap_alloc_old w _ (lt_size this.2.2)]; exact this.2.2⟩
theorem RT.store {B : Bx} {K : Land} {T : Nat → Prop} {w : World} (hK : Closed K) (h : RT T0 w0 B K T w) {p : Nat} {b : LB} (hb : B p = some b) (cs : Array Value) : RT T0 w0 (B.set p { b with cells := cs }) K T (setBlock w p (.cells cs b.ty (0, 0))) where
  k := hK T w _ h.k ((Mod.refl _ w).setBlock _ (fun _ => (h.box p b hb).2.1))
  lt i hi := Nat.lt_of_lt_of_le (h.lt i hi) (mod_set w p _).size
  old := h.old
  mod := h.mod.setBlock _ (fun hlt => absurd hlt (Nat.not_lt.2 (h.box p b hb).1))
  box q c hc := by
    have hp := h.box p b hb
    unfold Bx.set at hc
    split at hc
    · rename_i hq
      subst hq
      cases hc
      exact ⟨hp.1, hp.2.1, heap_setBlock w _ (lt_size hp.2.2)⟩
    · rename_i hq
      have := h.box q c hc
      exact ⟨this.1, this.2.1, by rw [heap_setBlock_ne w _ hq]; exact this.2.2⟩
theorem RT.weaken {B B' : Bx} {K : Land} {T : Nat → Prop} {w : World} (h : RT T0 w0 B' K T w) (hB : ∀ p b, B p = some b → B' p = some b) : RT T0 w0 B K T w :=
  ⟨h.k, h.lt, h.old, h.mod, fun p b hb => h.box p b (hB p b hb)⟩
theorem Inh.weaken {B : Bx} {K : Land} {p : Nat} {b : LB} (h : Inh T0 w0 (B.set p b) K) (hp : B p = Option.none) : Inh T0 w0 B K := by
  obtain ⟨w, T, h⟩ := h
  refine ⟨w, T, h.weaken fun q c hc => ?_⟩
  rw [Bx.set_ne _ (fun e => by rw [e, hp] at hc; cases hc)]
  exact hc
theorem Bx.set_set (B : Bx) (p : Nat) (b c : LB) : (B.set p b).set p c = B.set p c := by
  funext q
  unfold Bx.set
  split <;> rfl
theorem Bx.set_id {B : Bx} {p : Nat} {b : LB} (h : B p = some b) : B.set p b = B := by
  funext q
  unfold Bx.set
  split
  · rename_i e; rw [e, h]
  · rfl
theorem Inh.store {B : Bx} {K : Land} (hK : Closed K) {p : Nat} {b : LB} (hb : B p = some b) (cs : Array Value) (h : Inh T0 w0 B K) : Inh T0 w0 (B.set p { b with cells := cs }) K := by
  obtain ⟨w, T, h⟩ := h
  exact ⟨_, T, h.store hK hb cs⟩
theorem Inh.unstore {B : Bx} {K : Land} (hK : Closed K) {p : Nat} {b : LB} (hb : B p = some b) (cs : Array Value) (h : Inh T0 w0 (B.set p { b with cells := cs }) K) : Inh T0 w0 B K := by
  obtain ⟨w, T, h⟩ := h
  have h2 := h.store hK (p := p) (b := { b with cells := cs }) (Bx.set_same _ _ _) b.cells
  rw [Bx.set_set] at h2
  have e : B.set p b = B := Bx.set_id hb
  have h3 : RT T0 w0 (B.set p b) K T (setBlock w p (.cells b.cells b.ty (0, 0))) := h2
  rw [e] at h3
  exact ⟨_, T, h3⟩
theorem Inh.alloc {B : Bx} {K : Land} (hK : Closed K) (h : Inh T0 w0 B K) (z : Array Value) (ty : TypeId) (d : Tmp) : ∃ p, B p = Option.none ∧ Inh T0 w0 (B.set p ⟨z, ty, d⟩) K := by
  obtain ⟨w, T, h⟩ := h
  exact ⟨w.heap.size, h.none, _, T, h.alloc hK z ty d⟩
end

/-! ### 2. The pass -/
section
variable (P : Program) (ops : Array Oper) (Q : Exit → Act → World → Prop) (T0 : Nat → Prop) (w0 : World) (κ : Nat → Nat) (υ : Nat → List Tmp)

def Does (o : Oper) (a : Act) (w : World) (R : Value → World → Prop) : Prop :=
  (∃ v w', (execOp a.eval o).run P w = .ok (.value v) w' ∧ R v w') ∨ (∃ w', (execOp a.eval o).run P w = .ok .skip w' ∧ R undef w') ∨
  (∃ f args, (execOp a.eval o).run P w = .ok (.enter f args) w ∧ Calls P f args w fun e w' => ∃ v, e = .returned v ∧ R v w')

/-- What an effect tells: 'us' are the boxes that it may look at. -/
structure ESpec (o : Oper) (a : Act) (us : List Tmp) (B : Bx) (K : Land) (K' : Value → Land) : Prop where
  cl : ∀ v, Closed (K' v)
  run : ∀ T w, K T w → (∀ i, T i → i < w.heap.size) → (∀ i, i < w0.heap.size → T i → T0 i) → Mod T0 w0 w →
    (∀ p b, B p = some b → b.tag ∈ us → w0.heap.size ≤ p ∧ ¬ T p ∧ w.heap[p]? = some (.cells b.cells b.ty (0, 0))) →
    Does P o a w fun v w' => ∃ T', K' v T' w' ∧ Mod T w w' ∧ (∀ i, T' i → T i ∨ w.heap.size ≤ i) ∧ (∀ i, T' i → i < w'.heap.size)

inductive TG : List Nat → Act → Bx → Land → Prop
  | nil {a : Act} {B : Bx} {K : Land} : (∀ w, RG T0 w0 B K w → Q .normal a w) → TG [] a B K
  | val {i : Nat} {r : List Nat} {o : Oper} {a : Act} {B : Bx} {K : Land} {v : Value} : ops[i]? = some o → κ i = 0 → YieldsIf P ops (Mod T0 w0) o v a → TG r (a.put o.dst v) B K → TG (i :: r) a B K
  | alloc {i : Nat} {r : List Nat} {o : Oper} {a : Act} {B : Bx} {K : Land} {d : Tmp} {ty : TypeId} {z : Array Value} (V : Nat → Value) : ops[i]? = some o → κ i = 3 →
      Region.wanted o (yielded ops a.tmps) = true → o.dst = some d →
      (∀ w, (execOp a.eval o).run P w = .ok (.value (V w.heap.size)) (w.alloc (.cells z ty))) →
      (∀ p, B p = none → Inh T0 w0 (B.set p ⟨z, ty, d⟩) K → TG r (a.put o.dst (V p)) (B.set p ⟨z, ty, d⟩) K) → TG (i :: r) a B K
  | store {i : Nat} {r : List Nat} {o : Oper} {a : Act} {B : Bx} {K : Land} {d : Tmp} {ty : TypeId} {y : Operand} {p : Nat} {b : LB} : ops[i]? = some o → κ i = 4 →
      Region.wanted o (yielded ops a.tmps) = true → o.dst = none → o.op = .store ty (.tmp d) y → a.eval (.tmp d) = .pointer (some ⟨p, 0, none⟩) → B p = some b → b.tag = d →
      (∀ w, w.heap[p]? = some (.cells b.cells b.ty (0, 0)) → (execOp a.eval o).run P w = .ok .skip (setBlock w p (.cells (a.eval y).cells b.ty (0, 0)))) →
      TG r a (B.set p { b with cells := (a.eval y).cells }) K → TG (i :: r) a B K
  | eff {i : Nat} {r : List Nat} {o : Oper} {a : Act} {B : Bx} {K : Land} (K' : Value → Land) : ops[i]? = some o → κ i = 6 → Region.wanted o (yielded ops a.tmps) = true →
      ESpec P T0 w0 o a (υ i) B K K' → (∀ v, Inh T0 w0 B (K' v) → TG r (a.put o.dst v) B (K' v)) → TG (i :: r) a B K
end

section
variable {P : Program} {ops : Array Oper} {Q : Exit → Act → World → Prop} {T0 : Nat → Prop} {w0 : World} {κ : Nat → Nat} {υ : Nat → List Tmp}

theorem Does.same {o : Oper} {a a' : Act} {w : World} {R : Value → World → Prop} (he : execOp a'.eval o = execOp a.eval o) (h : Does P o a w R) : Does P o a' w R := by
  unfold Does at *
  rw [he]
  exact h
theorem Does.ex {o : Oper} {a : Act} {w : World} {R : Value → World → Prop} (h : Does P o a w R) : ∃ v w', R v w' := by
  rcases h with ⟨v, w', _, h⟩ | ⟨w', _, h⟩ | ⟨f, args, _, h⟩
  · exact ⟨v, w', h⟩
  · exact ⟨_, w', h⟩
  · obtain ⟨e, w', fr, ⟨v, _, hv⟩, _⟩ := h []
    exact ⟨v, w', hv⟩
theorem ESpec.same {o : Oper} {a a' : Act} {us : List Tmp} {B : Bx} {K : Land} {K' : Value → Land} (he : execOp a'.eval o = execOp a.eval o) (h : ESpec P T0 w0 o a us B K K') : ESpec P T0 w0 o a' us B K K' :=
  ⟨h.cl, fun T w h1 h2 h3 h4 h5 => (h.run T w h1 h2 h3 h4 h5).same he⟩
theorem ESpec.boxes {o : Oper} {a : Act} {us : List Tmp} {B B' : Bx} {K : Land} {K' : Value → Land} (hB : ∀ p b, b.tag ∈ us → B p = Option.some b → B' p = Option.some b) (h : ESpec P T0 w0 o a us B K K') : ESpec P T0 w0 o a us B' K K' :=
  ⟨h.cl, fun T w h1 h2 h3 h4 h5 => h.run T w h1 h2 h3 h4 fun p b hb ht => h5 p b (hB p b ht hb) ht⟩
theorem ESpec.step {o : Oper} {a : Act} {us : List Tmp} {B : Bx} {K : Land} {K' : Value → Land} (h : ESpec P T0 w0 o a us B K K') {T : Nat → Prop} {w : World} (hR : RT T0 w0 B K T w) :
    Does P o a w fun v w' => RG T0 w0 B (K' v) w' := by
  have key : ∀ v w', (∃ T', K' v T' w' ∧ Mod T w w' ∧ (∀ i, T' i → T i ∨ w.heap.size ≤ i) ∧ (∀ i, T' i → i < w'.heap.size)) → RG T0 w0 B (K' v) w' := by
    rintro v w' ⟨T', h1, h2, h3, h4⟩
    refine ⟨T', h1, h4, fun i hi hT => ?_, hR.mod.then h2 hR.old, fun p b hb => ?_⟩
    · rcases h3 i hT with hh | hh
      · exact hR.old i hi hh
      · have := hR.mod.size; omega
    · obtain ⟨b1, b2, b3⟩ := hR.box p b hb
      refine ⟨b1, fun hT => ?_, h2.at b3 b2⟩
      rcases h3 p hT with hh | hh
      · exact b2 hh
      · have := lt_size b3; omega
  rcases h.run T w hR.k hR.lt hR.old hR.mod (fun p b hb _ => hR.box p b hb) with ⟨v, w', h1, h2⟩ | ⟨w', h1, h2⟩ | ⟨f, args, h1, h2⟩
  · exact .inl ⟨v, w', h1, key _ _ h2⟩
  · exact .inr (.inl ⟨w', h1, key _ _ h2⟩)
  · refine .inr (.inr ⟨f, args, h1, h2.mono ?_⟩)
    rintro e w' ⟨v, he, hv⟩
    exact ⟨v, he, key _ _ hv⟩
theorem ESpec.inh {o : Oper} {a : Act} {us : List Tmp} {B : Bx} {K : Land} {K' : Value → Land} (h : ESpec P T0 w0 o a us B K K') (hI : Inh T0 w0 B K) : ∃ v, Inh T0 w0 B (K' v) := by
  obtain ⟨w, T, hR⟩ := hI
  obtain ⟨v, w', hv⟩ := (h.step hR).ex
  exact ⟨v, w', hv⟩
theorem yUnique {o : Oper} {a : Act} {u v : Value} (h : YieldsIf P ops (Mod T0 w0) o u a) (k : YieldsIf P ops (Mod T0 w0) o v a) : u = v := by
  rcases h with ⟨h1, h2⟩ | ⟨h1, rfl⟩ <;> rcases k with ⟨k1, k2⟩ | ⟨k1, rfl⟩
  · have := (h2 w0 (Mod.refl _ _)).symm.trans (k2 w0 (Mod.refl _ _))
    simpa using this
  · rw [h1] at k1; cases k1
  · rw [h1] at k1; cases k1
  · rfl

/-! Inversions by the kind. -/
theorem TG.kinds {i : Nat} {r : List Nat} {a : Act} {B : Bx} {K : Land} (h : TG P ops Q T0 w0 κ υ (i :: r) a B K) : κ i = 0 ∨ κ i = 3 ∨ κ i = 4 ∨ κ i = 6 := by
  cases h <;> omega
theorem TG.inv_val {i : Nat} {r : List Nat} {a : Act} {B : Bx} {K : Land} (h : TG P ops Q T0 w0 κ υ (i :: r) a B K) (hk : κ i = 0) {o : Oper} (ho : ops[i]? = some o) :
    ∃ v, YieldsIf P ops (Mod T0 w0) o v a ∧ TG P ops Q T0 w0 κ υ r (a.put o.dst v) B K := by
  cases h with
  | val ho' _ h1 h2 => rw [ho] at ho'; cases ho'; exact ⟨_, h1, h2⟩
  | alloc _ _ hk' => omega
  | store _ hk' => omega
  | eff _ _ hk' => omega
theorem TG.inv_alloc {i : Nat} {r : List Nat} {a : Act} {B : Bx} {K : Land} (h : TG P ops Q T0 w0 κ υ (i :: r) a B K) (hk : κ i = 3) {o : Oper} (ho : ops[i]? = some o) :
    Region.wanted o (yielded ops a.tmps) = true ∧ ∃ (d : Tmp) (ty : TypeId) (z : Array Value) (V : Nat → Value), o.dst = some d ∧
      (∀ w, (execOp a.eval o).run P w = .ok (.value (V w.heap.size)) (w.alloc (.cells z ty))) ∧
      ∀ p, B p = none → Inh T0 w0 (B.set p ⟨z, ty, d⟩) K → TG P ops Q T0 w0 κ υ r (a.put o.dst (V p)) (B.set p ⟨z, ty, d⟩) K := by
  cases h with
  | val _ hk' => omega
  | alloc V ho' _ h1 h2 h3 h4 => rw [ho] at ho'; cases ho'; exact ⟨h1, _, _, _, V, h2, h3, h4⟩
  | store _ hk' => omega
  | eff _ _ hk' => omega
theorem TG.inv_store {i : Nat} {r : List Nat} {a : Act} {B : Bx} {K : Land} (h : TG P ops Q T0 w0 κ υ (i :: r) a B K) (hk : κ i = 4) {o : Oper} (ho : ops[i]? = some o) :
    Region.wanted o (yielded ops a.tmps) = true ∧ o.dst = none ∧ ∃ d ty y p b, o.op = .store ty (.tmp d) y ∧ a.eval (.tmp d) = .pointer (some ⟨p, 0, none⟩) ∧ B p = some b ∧ b.tag = d ∧
      (∀ w, w.heap[p]? = some (.cells b.cells b.ty (0, 0)) → (execOp a.eval o).run P w = .ok .skip (setBlock w p (.cells (a.eval y).cells b.ty (0, 0)))) ∧
      TG P ops Q T0 w0 κ υ r a (B.set p { b with cells := (a.eval y).cells }) K := by
  cases h with
  | val _ hk' => omega
  | alloc _ _ hk' => omega
  | store ho' _ h1 h2 h3 h4 h5 h6 h7 h8 => rw [ho] at ho'; cases ho'; exact ⟨h1, h2, _, _, _, _, _, h3, h4, h5, h6, h7, h8⟩
  | eff _ _ hk' => omega
theorem TG.inv_eff {i : Nat} {r : List Nat} {a : Act} {B : Bx} {K : Land} (h : TG P ops Q T0 w0 κ υ (i :: r) a B K) (hk : κ i = 6) {o : Oper} (ho : ops[i]? = some o) :
    Region.wanted o (yielded ops a.tmps) = true ∧ ∃ K', ESpec P T0 w0 o a (υ i) B K K' ∧ ∀ v, Inh T0 w0 B (K' v) → TG P ops Q T0 w0 κ υ r (a.put o.dst v) B (K' v) := by
  cases h with
  | val _ hk' => omega
  | alloc _ _ hk' => omega
  | store _ hk' => omega
  | eff K' ho' _ h1 h2 h3 => rw [ho] at ho'; cases ho'; exact ⟨h1, K', h2, h3⟩

/-- Operations that may change places: 'x' stood ahead of 'o'. -/
def stag (o : Oper) : Option Tmp := match o.op with
  | .store _ (.tmp d) _ => some d
  | _ => none
def gkOk (kx ko : Nat) (ux uo : List Tmp) (ox oo : Oper) : Bool :=
  match kx, ko with
  | 0, 0 => true
  | 0, 3 => true
  | 0, 4 => true
  | 0, 6 => true
  | 3, 0 => true
  | 3, 3 => true
  | 3, 4 => true
  | 4, 0 => true
  | 4, 3 => true
  | 4, 4 => decide (stag ox ≠ stag oo)
  | 4, 6 => uo.all fun d => decide (stag ox ≠ some d)
  | 6, 0 => true
  | 6, 3 => ux.all fun d => decide (oo.dst ≠ some d)
  | 6, 4 => ux.all fun d => decide (stag oo ≠ some d)
  | _, _ => false

section swap
variable {x o : Nat} {r : List Nat} {a : Act} {B : Bx} {K : Land} {ox oo : Oper}
theorem TG.swap (hsel : ∀ (j : Nat) (p : Oper) cs b, ops[j]? = some p → p.op ≠ .select cs b) (hK : Closed K) (hI : Inh T0 w0 B K) (hx : ops[x]? = some ox) (ho : ops[o]? = some oo) (hap : ox.apart ops oo = true) (hk : gkOk (κ x) (κ o) (υ x) (υ o) ox oo = true)
    (h : TG P ops Q T0 w0 κ υ (x :: o :: r) a B K) : TG P ops Q T0 w0 κ υ (o :: x :: r) a B K := by
  obtain ⟨h1, h2, h3⟩ := Oper.apart_spec hap
  have eo : ∀ (a : Act) v, execOp (a.put ox.dst v).eval oo = execOp a.eval oo := fun a v => execOp_put oo (fun cs b => hsel o oo cs b ho) a ox.dst v h1
  have wo : ∀ (a : Act) v, Region.wanted oo (yielded ops (a.put ox.dst v).tmps) = Region.wanted oo (yielded ops a.tmps) := fun a v => wanted_put oo a ox.dst v h1
  have ex : ∀ (a : Act) v, execOp (a.put oo.dst v).eval ox = execOp a.eval ox := fun a v => execOp_put ox (fun cs b => hsel x ox cs b hx) a oo.dst v h3
  have wx : ∀ (a : Act) v, Region.wanted ox (yielded ops (a.put oo.dst v).tmps) = Region.wanted ox (yielded ops a.tmps) := fun a v => wanted_put ox a oo.dst v h3
  have pc : ∀ (a : Act) u v, (a.put ox.dst u).put oo.dst v = (a.put oo.dst v).put ox.dst u := fun a u v => Act.put_comm a u v h2
  have evx' : ∀ (a : Act) v (y : Operand), y ∈ ox.op.operands → (a.put oo.dst v).eval y = a.eval y := fun a v y hy => Act.eval_put (fun d hd e => h3 d hd (by
    subst e
    exact List.mem_append_left _ (List.mem_filterMap.2 ⟨.tmp d, by simpa using hy, rfl⟩)))
  have evo' : ∀ (a : Act) v (y : Operand), y ∈ oo.op.operands → (a.put ox.dst v).eval y = a.eval y := fun a v y hy => Act.eval_put (fun d hd e => h1 d hd (by
    subst e
    exact List.mem_append_left _ (List.mem_filterMap.2 ⟨.tmp d, by simpa using hy, rfl⟩)))
  have yo : ∀ (a : Act) v u, YieldsIf P ops (Mod T0 w0) oo u (a.put ox.dst v) → YieldsIf P ops (Mod T0 w0) oo u a := fun a v u hy => hy.of_same (eo a v).symm (wo a v).symm
  have yx : ∀ (a : Act) v u, YieldsIf P ops (Mod T0 w0) ox u a → YieldsIf P ops (Mod T0 w0) ox u (a.put oo.dst v) := fun a v u hy => hy.of_same (ex a v) (wx a v)
  rcases h.kinds with kx | kx | kx | kx
  · -- x is a value
    obtain ⟨v, hv, ht⟩ := h.inv_val kx hx
    rcases ht.kinds with ko | ko | ko | ko
    · obtain ⟨u, hu, ht2⟩ := ht.inv_val ko ho
      refine .val ho ko (yo _ _ _ hu) (.val hx kx (yx _ _ _ hv) ?_)
      rw [← pc]
      exact ht2
    · obtain ⟨w1, d, ty, z, V, hd, hr, ht2⟩ := ht.inv_alloc ko ho
      rw [wo] at w1
      rw [eo] at hr
      refine .alloc V ho ko w1 hd hr fun p hp hi => .val hx kx (yx _ _ _ hv) ?_
      rw [← pc]
      exact ht2 p hp hi
    · obtain ⟨w1, hd, d, ty, y, p, b, hop, hev, hb, htag, hr, ht2⟩ := ht.inv_store ko ho
      rw [wo] at w1
      rw [eo, evo' a _ _ (by simp [hop, Op.operands])] at hr
      rw [evo' a _ _ (by simp [hop, Op.operands])] at hev
      rw [evo' a _ _ (by simp [hop, Op.operands])] at ht2
      exact .store ho ko w1 hd hop hev hb htag hr (.val hx kx hv ht2)
    · obtain ⟨w1, K', hE, ht2⟩ := ht.inv_eff ko ho
      rw [wo] at w1
      refine .eff K' ho ko w1 (hE.same (eo a v).symm) fun u hu => .val hx kx (yx _ _ _ hv) ?_
      rw [← pc]
      exact ht2 u hu
  · -- x is a new box
    obtain ⟨w1, d, ty, z, V, hd, hr, ht⟩ := h.inv_alloc kx hx
    obtain ⟨p0, hp0, hi0⟩ := hI.alloc hK z ty d
    rcases (ht p0 hp0 hi0).kinds with ko | ko | ko | ko
    · obtain ⟨u, hu, _⟩ := (ht p0 hp0 hi0).inv_val ko ho
      refine .val ho ko (yo _ _ _ hu) (.alloc V hx kx (by rw [wx]; exact w1) hd (by rw [ex]; exact hr) fun p hp hi => ?_)
      obtain ⟨u', hu', ht2⟩ := (ht p hp hi).inv_val ko ho
      obtain rfl := yUnique (yo _ _ _ hu) (yo _ _ _ hu')
      rw [← pc]
      exact ht2
    · obtain ⟨w2, d2, ty2, z2, V2, hd2, hr2, _⟩ := (ht p0 hp0 hi0).inv_alloc ko ho
      rw [wo] at w2
      rw [eo] at hr2
      refine .alloc V2 ho ko w2 hd2 hr2 fun p2 hp2 hi2 => ?_
      refine .alloc V hx kx (by rw [wx]; exact w1) hd (by rw [ex]; exact hr) fun p1 hp1 hi1 => ?_
      obtain ⟨hne, hp1'⟩ := Bx.set_none hp1
      rw [Bx.set_comm _ (Ne.symm hne)] at hi1 ⊢
      have hp2' : (B.set p1 ⟨z, ty, d⟩) p2 = none := by rw [Bx.set_ne _ (Ne.symm hne)]; exact hp2
      obtain ⟨_, d', ty', z', V', hd', hr', ht'⟩ := (ht p1 hp1' (hi1.weaken hp2')).inv_alloc ko ho
      rw [eo] at hr'
      obtain rfl := val_inj hr2 hr'
      have := (hr2 w0).symm.trans (hr' w0)
      simp only [Result.ok.injEq, true_and] at this
      obtain ⟨rfl, rfl⟩ := alloc_inj this
      rw [hd2] at hd'
      cases hd'
      rw [← pc]
      exact ht' p2 hp2' hi1
    · obtain ⟨_, _, d0, _, _, q0, b0, hop0, hev0, hb0, htag0, _⟩ := (ht p0 hp0 hi0).inv_store ko ho
      have hd0 : d0 ≠ d := fun e => h1 d hd (by
        subst e
        exact List.mem_append_left _ (List.mem_filterMap.2 ⟨.tmp d0, by simp [hop0, Op.operands], rfl⟩))
      have hq0 : q0 ≠ p0 := fun e => by
        rw [e, Bx.set_same] at hb0
        cases hb0
        exact hd0 htag0.symm
      obtain ⟨w2, hd2, d2, ty2, y, p, b, hop, hev, hb, htag, hr2, _⟩ := (ht p0 hp0 hi0).inv_store ko ho
      rw [hop0] at hop
      cases hop
      rw [evo' a _ _ (by simp [hop0, Op.operands])] at hev hev0
      rw [hev0] at hev
      simp only [Value.pointer.injEq, Option.some.injEq, Addr.mk.injEq, and_true] at hev
      subst hev
      rw [Bx.set_ne _ hq0] at hb
      rw [wo] at w2
      rw [eo, evo' a _ _ (by simp [hop0, Op.operands])] at hr2
      refine .store ho ko w2 hd2 hop0 hev0 hb htag hr2 ?_
      refine .alloc V hx kx w1 hd hr fun p2 hp2 hi2 => ?_
      obtain ⟨hne, hp2'⟩ := Bx.set_none hp2
      have hb2 : (B.set p2 ⟨z, ty, d⟩) q0 = some b := by rw [Bx.set_ne _ (Ne.symm hne)]; exact hb
      rw [← Bx.set_comm _ hne] at hi2
      obtain ⟨_, _, d', ty', y', p', b', hop', hev', hb', htag', hr', ht'⟩ := (ht p2 hp2' (hi2.unstore hK hb2 _)).inv_store ko ho
      rw [hop0] at hop'
      cases hop'
      rw [evo' a _ _ (by simp [hop0, Op.operands]), hev0] at hev'
      simp only [Value.pointer.injEq, Option.some.injEq, Addr.mk.injEq, and_true] at hev'
      subst hev'
      rw [Bx.set_ne _ (Ne.symm hne), hb] at hb'
      cases hb'
      rw [evo' a _ _ (by simp [hop0, Op.operands])] at ht'
      rw [Bx.set_comm _ (Ne.symm hne)]
      exact ht'
    · rw [kx, ko] at hk
      cases hk
  · -- x is a store into a new box
    obtain ⟨w1, hd, d, ty, y, p, b, hop, hev, hb, htag, hr, ht⟩ := h.inv_store kx hx
    have hst : stag ox = some d := by unfold stag; rw [hop]
    rcases ht.kinds with ko | ko | ko | ko
    · obtain ⟨u, hu, ht'⟩ := ht.inv_val ko ho
      refine .val ho ko hu ?_
      refine .store (b := b) hx kx (by rw [wx]; exact w1) hd hop (by rw [evx' a _ _ (by simp [hop, Op.operands])]; exact hev) hb htag
        (by rw [ex, evx' a _ _ (by simp [hop, Op.operands])]; exact hr) ?_
      rw [evx' a _ _ (by simp [hop, Op.operands])]
      exact ht'
    · obtain ⟨w2, d2, ty2, z2, V2, hd2, hr2, ht'⟩ := ht.inv_alloc ko ho
      refine .alloc V2 ho ko w2 hd2 hr2 fun p2 hp2 hi2 => ?_
      have hne : p2 ≠ p := fun e => by rw [e, hb] at hp2; cases hp2
      have hb2 : (B.set p2 ⟨z2, ty2, d2⟩) p = some b := by rw [Bx.set_ne _ (Ne.symm hne)]; exact hb
      refine .store (b := b) hx kx (by rw [wx]; exact w1) hd hop (by rw [evx' a _ _ (by simp [hop, Op.operands])]; exact hev) hb2 htag
        (by rw [ex, evx' a _ _ (by simp [hop, Op.operands])]; exact hr) ?_
      rw [evx' a _ _ (by simp [hop, Op.operands]), Bx.set_comm _ hne]
      have hi3 := hi2.store hK hb2 (a.eval y).cells
      rw [Bx.set_comm _ hne] at hi3
      exact ht' p2 (by rw [Bx.set_ne _ hne]; exact hp2) hi3
    · obtain ⟨w2, hd2, d2, ty2, y2, p2, b2, hop2, hev2, hb2, htag2, hr2, ht'⟩ := ht.inv_store ko ho
      have hso : stag oo = some d2 := by unfold stag; rw [hop2]
      have hne : d ≠ d2 := by
        rw [kx, ko] at hk
        have : stag ox ≠ stag oo := by simpa [gkOk] using hk
        rw [hst, hso] at this
        exact fun e => this (by rw [e])
      have hpp : p2 ≠ p := fun e => by
        subst e
        rw [Bx.set_same] at hb2
        cases hb2
        exact hne (htag.symm.trans htag2)
      rw [Bx.set_ne _ hpp] at hb2
      refine .store (b := b2) ho ko w2 hd2 hop2 hev2 hb2 htag2 hr2 ?_
      refine .store (b := b) hx kx w1 hd hop hev (by rw [Bx.set_ne _ (Ne.symm hpp)]; exact hb) htag hr ?_
      rw [Bx.set_comm _ hpp]
      exact ht'
    · obtain ⟨w2, K', hE, ht'⟩ := ht.inv_eff ko ho
      have hdu : d ∉ υ o := by
        rw [kx, ko] at hk
        have hk : ∀ e ∈ υ o, stag ox ≠ some e := by simpa [gkOk] using hk
        exact fun hm => hk d hm hst
      have hod : oo.dst = none ∨ True := .inr trivial
      refine .eff K' ho ko w2 (hE.boxes fun q c hc hq => ?_) fun u hu => ?_
      · by_cases hqp : q = p
        · subst hqp
          rw [Bx.set_same] at hq
          cases hq
          exact absurd (htag ▸ hc) hdu
        · rw [Bx.set_ne _ hqp] at hq
          exact hq
      · refine .store (b := b) hx kx (by rw [wx]; exact w1) hd hop (by rw [evx' a _ _ (by simp [hop, Op.operands])]; exact hev) hb htag
          (by rw [ex, evx' a _ _ (by simp [hop, Op.operands])]; exact hr) ?_
        rw [evx' a _ _ (by simp [hop, Op.operands])]
        exact ht' u (hu.store (hE.cl u) hb _)
  · -- x is an effect
    obtain ⟨w1, K', hE, ht⟩ := h.inv_eff kx hx
    obtain ⟨v0, hv0⟩ := hE.inh hI
    rcases (ht v0 hv0).kinds with ko | ko | ko | ko
    · obtain ⟨u, hu, _⟩ := (ht v0 hv0).inv_val ko ho
      refine .val ho ko (yo _ _ _ hu) (.eff K' hx kx (by rw [wx]; exact w1) (hE.same (ex a u)) fun v hv => ?_)
      obtain ⟨u', hu', ht2⟩ := (ht v hv).inv_val ko ho
      obtain rfl := yUnique (yo _ _ _ hu) (yo _ _ _ hu')
      rw [← pc]
      exact ht2
    · obtain ⟨w2, d2, ty2, z2, V2, hd2, hr2, _⟩ := (ht v0 hv0).inv_alloc ko ho
      rw [wo] at w2
      rw [eo] at hr2
      have hdu : d2 ∉ υ x := by
        rw [kx, ko] at hk
        have hk : ∀ e ∈ υ x, oo.dst ≠ some e := by simpa [gkOk] using hk
        exact fun hm => hk d2 hm hd2
      refine .alloc V2 ho ko w2 hd2 hr2 fun p2 hp2 hi2 => ?_
      refine .eff K' hx kx (by rw [wx]; exact w1) ((hE.same (ex a _)).boxes fun q c hc hq => ?_) fun v hv => ?_
      · rw [Bx.set_ne _ (fun e => by rw [e, hp2] at hq; cases hq)]
        exact hq
      · obtain ⟨_, d', ty', z', V', hd', hr', ht'⟩ := (ht v (hv.weaken hp2)).inv_alloc ko ho
        rw [eo] at hr'
        obtain rfl := val_inj hr2 hr'
        have := (hr2 w0).symm.trans (hr' w0)
        simp only [Result.ok.injEq, true_and] at this
        obtain ⟨rfl, rfl⟩ := alloc_inj this
        rw [hd2] at hd'
        cases hd'
        rw [← pc]
        exact ht' p2 hp2 hv
    · obtain ⟨w2, hd2, d2, ty2, y2, p2, b2, hop2, hev2, hb2, htag2, hr2, _⟩ := (ht v0 hv0).inv_store ko ho
      have hso : stag oo = some d2 := by unfold stag; rw [hop2]
      have hdu : d2 ∉ υ x := by
        rw [kx, ko] at hk
        have hk : ∀ e ∈ υ x, stag oo ≠ some e := by simpa [gkOk] using hk
        exact fun hm => hk d2 hm hso
      rw [wo] at w2
      rw [evo' a _ _ (by simp [hop2, Op.operands])] at hev2
      rw [eo, evo' a _ _ (by simp [hop2, Op.operands])] at hr2
      refine .store (b := b2) ho ko w2 hd2 hop2 hev2 hb2 htag2 hr2 ?_
      refine .eff K' hx kx w1 (hE.boxes fun q c hc hq => ?_) fun v hv => ?_
      · by_cases hqp : q = p2
        · subst hqp
          rw [hb2] at hq
          cases hq
          exact absurd (htag2 ▸ hc) hdu
        · rw [Bx.set_ne _ hqp]
          exact hq
      · obtain ⟨_, _, d', ty', y', p', b', hop', hev', hb', htag', hr', ht'⟩ := (ht v (hv.unstore (hE.cl v) hb2 _)).inv_store ko ho
        rw [hop2] at hop'
        cases hop'
        rw [evo' a _ _ (by simp [hop2, Op.operands]), hev2] at hev'
        simp only [Value.pointer.injEq, Option.some.injEq, Addr.mk.injEq, and_true] at hev'
        subst hev'
        rw [hb2] at hb'
        cases hb'
        rw [evo' a _ _ (by simp [hop2, Op.operands])] at ht'
        exact ht'
    · rw [kx, ko] at hk
      cases hk
end swap

/-- One that may change places with all that stand ahead of it stands first. -/
theorem TG.front (hsel : ∀ (j : Nat) (p : Oper) cs b, ops[j]? = some p → p.op ≠ .select cs b) {o : Nat} {oo : Oper} (ho : ops[o]? = some oo) {post : List Nat} : ∀ (pre : List Nat) (a : Act) (B : Bx) (K : Land), Closed K → Inh T0 w0 B K →
      (∀ x ∈ pre, ∃ ox, ops[x]? = some ox ∧ ox.apart ops oo = true ∧ gkOk (κ x) (κ o) (υ x) (υ o) ox oo = true) →
      TG P ops Q T0 w0 κ υ (pre ++ o :: post) a B K → TG P ops Q T0 w0 κ υ (o :: (pre ++ post)) a B K
  | [], _, _, _, _, _, _, h => h
  | x :: pre, a, B, K, hK, hI, hp, h => by
    obtain ⟨ox, hx, hap, hk⟩ := hp x (by simp)
    have hp' : ∀ y ∈ pre, ∃ oy, ops[y]? = some oy ∧ oy.apart ops oo = true ∧ gkOk (κ y) (κ o) (υ y) (υ o) oy oo = true := fun y hy => hp y (List.mem_cons_of_mem _ hy)
    refine TG.swap hsel hK hI hx ho hap hk ?_
    rcases h.kinds with kx | kx | kx | kx
    · obtain ⟨v, h1, h2⟩ := h.inv_val kx hx
      exact .val hx kx h1 (TG.front hsel ho pre _ _ _ hK hI hp' h2)
    · obtain ⟨w1, d, T, z, V, hd, hr, ht⟩ := h.inv_alloc kx hx
      exact .alloc V hx kx w1 hd hr fun p hpn hi => TG.front hsel ho pre _ _ _ hK hi hp' (ht p hpn hi)
    · obtain ⟨w1, hd, d, T, y, p, b, hop, hev, hb, htag, hr, ht⟩ := h.inv_store kx hx
      exact .store hx kx w1 hd hop hev hb htag hr (TG.front hsel ho pre _ _ _ hK (hI.store hK hb _) hp' ht)
    · obtain ⟨w1, K', hE, ht⟩ := h.inv_eff kx hx
      exact .eff K' hx kx w1 hE fun v hv => TG.front hsel ho pre _ _ _ (hE.cl v) hv hp' (ht v hv)

/-! ### 3. Any order that the edges allow -/
def gPairOk (ops : Array Oper) (κ : Nat → Nat) (υ : Nat → List Tmp) (x o : Nat) : Bool :=
  (!(x == o) && (behindB ops x).testBit o) || match ops[x]?, ops[o]? with
    | some ox, some oo => ox.apart ops oo && gkOk (κ x) (κ o) (υ x) (υ o) ox oo
    | _, _ => false
def gPairsOk (ops : Array Oper) (κ : Nat → Nat) (υ : Nat → List Tmp) : List Nat → Bool
  | [] => true
  | x :: r => r.all (fun o => gPairOk ops κ υ x o) && gPairsOk ops κ υ r
def gRegOk (ops : Array Oper) (κ : Nat → Nat) (υ : Nat → List Tmp) (l : List Nat) : Bool :=
  Region.noSelect ops && ((List.range ops.size).all fun i => match ops[i]? with | none => false | some o => o.after.all fun e => !Region.binds .any e || decide (e.on < i)) &&
  (decide (l.length = ops.size) && (l.all (fun i => decide (i < ops.size)) && ((List.range ops.size).all fun i => l.contains i))) && (decide l.Nodup && gPairsOk ops κ υ l)
theorem gPairsOk_split {i : Nat} {post : List Nat} : ∀ {pre : List Nat}, gPairsOk ops κ υ (pre ++ i :: post) = true → (∀ x ∈ pre, gPairOk ops κ υ x i = true) ∧ gPairsOk ops κ υ (pre ++ post) = true
  | [], h => by
    simp only [List.nil_append, gPairsOk, Bool.and_eq_true] at h
    exact ⟨fun _ hx => (List.not_mem_nil hx).elim, h.2⟩
  | x :: pre, h => by
    simp only [List.cons_append, gPairsOk, Bool.and_eq_true, List.all_eq_true] at h
    obtain ⟨h1, h2⟩ := gPairsOk_split h.2
    refine ⟨fun y hy => ?_, ?_⟩
    · rcases List.mem_cons.1 hy with rfl | hy
      · exact h.1 i (by simp)
      · exact h1 y hy
    · simp only [List.cons_append, gPairsOk, Bool.and_eq_true, List.all_eq_true]
      refine ⟨fun y hy => h.1 y ?_, h2⟩
      rcases List.mem_append.1 hy with hy | hy
      · exact List.mem_append_left _ hy
      · exact List.mem_append_right _ (List.mem_cons_of_mem _ hy)
theorem Does.wp {o : Oper} {a : Act} {w : World} {R : Value → World → Prop} {i : Nat} {K : Act → World → Prop} (ho : ops[i]? = some o) (hw : Region.wanted o (yielded ops a.tmps) = true) (h : Does P o a w R) (hn : ∀ v w', R v w' → K (a.put o.dst v) w') : wpOp P ops Q i K a w := by
  rcases h with ⟨v, w', h1, h2⟩ | ⟨w', h1, h2⟩ | ⟨f, args, h1, h2⟩
  · exact eff_value ho hw h1 (hn v w' h2)
  · exact eff_skip ho hw h1 (hn undef w' h2)
  · unfold wpOp
    simp only [ho, hw, if_true]
    refine .inl ?_
    unfold Oper.wp
    rw [h1]
    refine h2.mono ?_
    rintro e w' ⟨v, rfl, hv⟩
    exact hn v w' hv
theorem TG.sound (hsel : ∀ (j : Nat) (p : Oper) cs b, ops[j]? = some p → p.op ≠ .select cs b)
    (hback : ∀ i o, ops[i]? = some o → ∀ e ∈ o.after, Region.binds .any e = true → e.on < i) :
    ∀ (fuel : Nat) (l : List Nat) (listed : Array Bool) (a : Act) (B : Bx) (K : Land) (w : World), l.length = fuel → l.Nodup → (∀ i ∈ l, i < ops.size) → gPairsOk ops κ υ l = true → Listing ops listed l → Closed K →
      RG T0 w0 B K w → TG P ops Q T0 w0 κ υ l a B K → wpAny P .any ops Q fuel listed a w := by
  intro fuel
  induction fuel with
  | zero =>
    intro l listed a B K w hl hn hlt hp hL hK hR h
    obtain rfl : l = [] := List.length_eq_zero_iff.1 hl
    refine ⟨?_, ?_⟩
    · rw [List.eq_nil_iff_forall_not_mem]
      intro i hi
      have := (hL.mem i).2 (mem_ready.1 hi).1
      cases this
    · cases h with | nil h => exact h w hR
  | succ fuel ih =>
    intro l listed a B K w hl hn hlt hp hL hK hR h
    refine ⟨fun hnil => ?_, fun i hi => ?_⟩
    · exfalso
      match l, hl with
      | i :: l', _ => exact exists_ready hback hL hlt i i (by simp) (Nat.le_refl _) hnil
    · obtain ⟨hun, o, ho, hall⟩ := mem_ready.1 hi
      obtain ⟨pre, post, rfl⟩ := List.append_of_mem ((hL.mem i).2 hun)
      obtain ⟨h1, h2⟩ := gPairsOk_split hp
      have hf := TG.front hsel ho pre a B K hK ⟨w, hR⟩ (fun x hx => by
        have := h1 x hx
        unfold gPairOk at this
        have hxo : ops[x]? = some (ops[x]'(hlt x (by simp [hx]))) := Array.getElem?_eq_getElem _
        rw [hxo, ho] at this
        simp only [Bool.or_eq_true, Bool.and_eq_true] at this
        rcases this with hpth | hok
        · obtain ⟨_, hpth⟩ := (behindB_path hpth.2).resolve_left (fun e => by have := hpth.1; simp [e] at this)
          have hl1 := path_listed hL.closed _ x i o ho hall hpth
          have hl2 := getD_false_of_true ((hL.mem x).1 (by simp [hx]))
          rw [hl1] at hl2
          cases hl2
        · exact ⟨_, hxo, hok.1, hok.2⟩) h
      have hl' : (pre ++ post).length = fuel := by simp at hl ⊢; omega
      have hn' : (pre ++ post).Nodup := hn.sublist (List.Sublist.append_left (List.sublist_cons_self _ _) _)
      have hlt' : ∀ j ∈ pre ++ post, j < ops.size := fun j hj => hlt j (by
        rcases List.mem_append.1 hj with hj | hj
        · exact List.mem_append_left _ hj
        · exact List.mem_append_right _ (List.mem_cons_of_mem _ hj))
      have hL' := hL.next hn ho hall
      rcases hf.kinds with ko | ko | ko | ko
      · obtain ⟨v, hy, ht⟩ := hf.inv_val ko ho
        obtain ⟨T, hRT⟩ := hR
        exact YieldsIf.wpOp ho hy hRT.mod (ih _ _ _ _ _ _ hl' hn' hlt' h2 hL' hK ⟨T, hRT⟩ ht)
      · obtain ⟨hw, d, T, z, V, hd, hr, ht⟩ := hf.inv_alloc ko ho
        obtain ⟨U, hRT⟩ := hR
        have hR' : RG T0 w0 (B.set w.heap.size ⟨z, T, d⟩) K (w.alloc (.cells z T)) := ⟨U, hRT.alloc hK z T d⟩
        unfold wpOp
        simp only [ho, hw, if_true]
        refine .inl ?_
        unfold Oper.wp
        rw [hr w]
        exact ih _ _ _ _ _ _ hl' hn' hlt' h2 hL' hK hR' (ht _ hRT.none ⟨_, hR'⟩)
      · obtain ⟨hw, hd, d, T, y, p, b, hop, hev, hb, htag, hr, ht⟩ := hf.inv_store ko ho
        obtain ⟨U, hRT⟩ := hR
        unfold wpOp
        simp only [ho, hw, if_true]
        refine .inl ?_
        unfold Oper.wp
        rw [hr w (hRT.box p b hb).2.2]
        simp only [Oper.upon, hd]
        exact ih _ _ _ _ _ _ hl' hn' hlt' h2 hL' hK ⟨U, hRT.store hK hb _⟩ ht
      · obtain ⟨hw, K', hE, ht⟩ := hf.inv_eff ko ho
        obtain ⟨U, hRT⟩ := hR
        exact (hE.step hRT).wp ho hw fun v w' hv => ih _ _ _ _ _ _ hl' hn' hlt' h2 hL' (hE.cl v) hv (ht v ⟨w', hv⟩)
theorem g_any {a : Act} {w1 : World} {K : Land} (l : List Nat) (hok : gRegOk ops κ υ l = true) (hK : Closed K) (hR : RG T0 w0 Bx.nil K w1)
    (h : TG P ops Q T0 w0 κ υ l a Bx.nil K) : wpAny P .any ops Q ops.size (Array.replicate ops.size false) a w1 := by
  simp only [gRegOk, Bool.and_eq_true, List.all_eq_true, decide_eq_true_eq] at hok
  obtain ⟨⟨⟨h1, h2⟩, h3, h4, h5⟩, hnd, h6⟩ := hok
  have hback : ∀ i o, ops[i]? = some o → ∀ e ∈ o.after, Region.binds .any e = true → e.on < i := fun i o ho e he hb => by
    have := h2 i (List.mem_range.2 (Array.getElem?_eq_some_iff.1 ho).1)
    rw [ho] at this
    have := Array.all_eq_true_iff_forall_mem.1 this e he
    simpa [hb] using this
  refine TG.sound (Region.noSelect_spec h1) hback _ l _ a _ _ _ h3 hnd h4 h6 ?_ hK hR h
  refine ⟨by simp, fun i => ?_, fun i o hi => ?_⟩
  · constructor
    · intro hi
      have := h4 i hi
      simp [this]
    · intro hi
      have : i < ops.size := by
        rcases Nat.lt_or_ge i ops.size with h' | h'
        · exact h'
        · simp [Nat.not_lt.2 h'] at hi
      simpa using h5 i (List.mem_range.2 this)
  · exfalso
    have : (Array.replicate ops.size false).getD i false = false := by
      by_cases h' : i < ops.size
      · simp [h']
      · simp [h']
    rw [this] at hi
    cases hi
/-- **A REGION BY ONE PASS WITH EFFECTS**: K tells of the blocks T0 that are owned. -/
theorem wp_gpass {id : Nat} {a : Act} {w : World} {K : Land} (l : List Nat) (hm : P.follows .mixedOrders = true) (hok : gRegOk ops κ υ l = true) (hK : Closed K) (hk : K T0 w) (hlt : ∀ i, T0 i → i < w.heap.size)
    (h : TG P ops Q T0 w κ υ l a Bx.nil K) : (Code.region id ops true).wp P Q a w :=
  wp_region_any hm (g_any l hok hK ⟨T0, hK T0 w w.drew hk (Mod.refl _ w).drew, hlt, fun _ _ h => h, (Mod.refl _ w).drew, fun _ _ hh => by cases hh⟩ h)
theorem wp_gpass0 {id : Nat} {a : Act} {w : World} {K : Land} (l : List Nat) (hlin : Region.linearise .any ops 0 = List.range ops.size) (hok : gRegOk ops κ υ l = true) (hK : Closed K) (hk : K T0 w) (hlt : ∀ i, T0 i → i < w.heap.size)
    (h : TG P ops Q T0 w κ υ l a Bx.nil K) : (Code.region id ops false).wp P Q a w := by
  refine wp_region ?_
  rw [← hlin]
  exact wpAny_sound ops.size 0 _ a w (g_any l hok hK ⟨T0, hk, hlt, fun _ _ h => h, Mod.refl _ _, fun _ _ hh => by cases hh⟩ h)
end

/-! ### 4. The steps of a pass -/
section
variable {P : Program} {ops : Array Oper} {Q : Exit → Act → World → Prop} {T0 : Nat → Prop} {w0 : World} {κ : Nat → Nat} {υ : Nat → List Tmp}
theorem TG.mono {l : List Nat} {a : Act} {B : Bx} {K2 : Land} (h : TG P ops Q T0 w0 κ υ l a B K2) : ∀ {K1 : Land}, (∀ T w, K1 T w → K2 T w) → TG P ops Q T0 w0 κ υ l a B K1 := by
  have rg : ∀ {B : Bx} {K1 K2 : Land} {w : World}, (∀ T w, K1 T w → K2 T w) → RG T0 w0 B K1 w → RG T0 w0 B K2 w := fun hK ⟨T, h⟩ => ⟨T, hK _ _ h.k, h.lt, h.old, h.mod, h.box⟩
  induction h with
  | nil h => intro K1 hK; exact .nil fun w hw => h w (rg hK hw)
  | val h1 h2 h3 _ ih => intro K1 hK; exact .val h1 h2 h3 (ih hK)
  | alloc V h1 h2 h3 h4 h5 _ ih => intro K1 hK; exact .alloc V h1 h2 h3 h4 h5 fun p hp hi => ih p hp (by obtain ⟨w, hw⟩ := hi; exact ⟨w, rg hK hw⟩) hK
  | store h1 h2 h3 h4 h5 h6 h7 h8 h9 _ ih => intro K1 hK; exact .store h1 h2 h3 h4 h5 h6 h7 h8 h9 (ih hK)
  | eff K' h1 h2 h3 h4 h5 ih => intro K1 hK; exact .eff K' h1 h2 h3 ⟨h4.cl, fun T w k1 k2 k3 k4 k5 => h4.run T w (hK _ _ k1) k2 k3 k4 k5⟩ h5
/-- A value, told of each world of the frame. -/
theorem TG.v {i : Nat} {r : List Nat} {a : Act} {B : Bx} {K : Land} {o : Oper} {v : Value} (ho : ops[i]? = some o) (hk : κ i = 0) (hw : Region.wanted o (yielded ops a.tmps) = true)
    (hy : ∀ w, Mod T0 w0 w → (execOp a.eval o).run P w = .ok (.value v) w) (h : TG P ops Q T0 w0 κ υ r (a.put o.dst v) B K) : TG P ops Q T0 w0 κ υ (i :: r) a B K :=
  .val ho hk (.inl ⟨hw, hy⟩) h
theorem TG.v0 {i : Nat} {r : List Nat} {a : Act} {B : Bx} {K : Land} {o : Oper} {v : Value} (ho : ops[i]? = some o) (hk : κ i = 0) (hw : Region.wanted o (yielded ops a.tmps) = true)
    (hy : ∀ w, (execOp a.eval o).run P w = .ok (.value v) w) (h : TG P ops Q T0 w0 κ υ r (a.put o.dst v) B K) : TG P ops Q T0 w0 κ υ (i :: r) a B K :=
  .val ho hk (.inl ⟨hw, fun w _ => hy w⟩) h
theorem TG.pass {i : Nat} {r : List Nat} {a : Act} {B : Bx} {K : Land} {o : Oper} (ho : ops[i]? = some o) (hk : κ i = 0) (hw : Region.wanted o (yielded ops a.tmps) = false)
    (h : TG P ops Q T0 w0 κ υ r (a.put o.dst undef) B K) : TG P ops Q T0 w0 κ υ (i :: r) a B K :=
  .val ho hk (.inr ⟨hw, rfl⟩) h
theorem TG.load {i : Nat} {r : List Nat} {a : Act} {B : Bx} {K : Land} {o : Oper} {T : TypeId} {x : Operand} {p v : Value} (ho : ops[i]? = some o) (hk : κ i = 0) (hw : Region.wanted o (yielded ops a.tmps) = true)
    (hop : o.op = .load T x) (hx : a.eval x = p) (hy : ∀ w, Mod T0 w0 w → (Instr.loadAt T p).run P w = .ok v w) (h : TG P ops Q T0 w0 κ υ r (a.put o.dst v) B K) : TG P ops Q T0 w0 κ υ (i :: r) a B K :=
  TG.v ho hk hw (fun w hs => exec_load hop hx (hy w hs)) h
theorem TG.lookup {i : Nat} {r : List Nat} {a : Act} {B : Bx} {K : Land} {o : Oper} {T : TypeId} {x y : Operand} {ok : Bool} {p q v : Value} (ho : ops[i]? = some o) (hk : κ i = 0) (hw : Region.wanted o (yielded ops a.tmps) = true)
    (hop : o.op = .lookup T x y ok) (hx : a.eval x = p) (hy : a.eval y = q) (hr : ∀ w, Mod T0 w0 w → (Instr.lookup T p q ok).run P w = .ok v w) (h : TG P ops Q T0 w0 κ υ r (a.put o.dst v) B K) : TG P ops Q T0 w0 κ υ (i :: r) a B K :=
  TG.v ho hk hw (fun w hs => by subst hx; subst hy; simp [execOp, hop, hr w hs]) h
theorem TG.conv {i : Nat} {r : List Nat} {a : Act} {B : Bx} {K : Land} {o : Oper} {s d : TypeId} {x : Operand} {p v : Value} (ho : ops[i]? = some o) (hk : κ i = 0) (hw : Region.wanted o (yielded ops a.tmps) = true)
    (hop : o.op = .convert s d x) (hx : a.eval x = p) (hr : ∀ w, Mod T0 w0 w → (convert s d p).run P w = .ok v w) (h : TG P ops Q T0 w0 κ υ r (a.put o.dst v) B K) : TG P ops Q T0 w0 κ υ (i :: r) a B K :=
  TG.v ho hk hw (fun w hs => by subst hx; simp [execOp, hop, hr w hs]) h
theorem TG.build {i : Nat} {r : List Nat} {a : Act} {B : Bx} {K : Land} {o : Oper} {T : TypeId} {parts : Array (Nat × Operand)} {ps : Array (Nat × Value)} {v : Value} (ho : ops[i]? = some o) (hk : κ i = 0) (hw : Region.wanted o (yielded ops a.tmps) = true)
    (hop : o.op = .build T parts) (hx : parts.map (fun (p : Nat × Operand) => (p.1, a.eval p.2)) = ps) (hr : ∀ w, (Instr.build T ps).run P w = .ok v w) (h : TG P ops Q T0 w0 κ υ r (a.put o.dst v) B K) : TG P ops Q T0 w0 κ υ (i :: r) a B K :=
  TG.v ho hk hw (fun w _ => by subst hx; simp [execOp, hop, hr w]) h
theorem TG.allocB {i : Nat} {r : List Nat} {a : Act} {B : Bx} {K : Land} {o : Oper} {d : Tmp} {T : TypeId} {z : Array Value} (ho : ops[i]? = some o) (hk : κ i = 3)
    (hw : Region.wanted o (yielded ops a.tmps) = true) (hd : o.dst = some d) (hop : o.op = .alloc T)
    (hr : ∀ w, (Instr.alloc T true (.tuple #[])).run P w = .ok (.pointer (some ⟨w.heap.size, 0, none⟩)) (w.alloc (.cells z T)))
    (h : ∀ p, B p = none → Inh T0 w0 (B.set p ⟨z, T, d⟩) K → TG P ops Q T0 w0 κ υ r (a.put o.dst (.pointer (some ⟨p, 0, none⟩))) (B.set p ⟨z, T, d⟩) K) : TG P ops Q T0 w0 κ υ (i :: r) a B K :=
  .alloc (fun p => .pointer (some ⟨p, 0, none⟩)) ho hk hw hd (fun w => by simp [execOp, hop, hr]) h
/-- All that an effect has laid is owned. -/
def Grow (T : Nat → Prop) (w w' : World) : Nat → Prop := fun i => T i ∨ (w.heap.size ≤ i ∧ i < w'.heap.size)
theorem Grow.in {T : Nat → Prop} {w w' : World} {i : Nat} (h : T i) : Grow T w w' i := .inl h
theorem Grow.new {T : Nat → Prop} {w w' : World} {i : Nat} (h : w.heap.size ≤ i) (h2 : i < w'.heap.size) : Grow T w w' i := .inr ⟨h, h2⟩
/-- The boxes that an effect may look at. -/
def UB (T : Nat → Prop) (us : List Tmp) (B : Bx) (w : World) : Prop := ∀ p b, B p = some b → b.tag ∈ us → ¬ T p ∧ w.heap[p]? = some (.cells b.cells b.ty (0, 0))
theorem TG.eff' {i : Nat} {r : List Nat} {a : Act} {B : Bx} {K : Land} {o : Oper} (K' : Value → Land) (ho : ops[i]? = some o) (hk : κ i = 6) (hw : Region.wanted o (yielded ops a.tmps) = true) (hcl : ∀ v, Closed (K' v))
    (hd : ∀ T w, K T w → (∀ i, T i → i < w.heap.size) → Mod T0 w0 w → UB T (υ i) B w → Does P o a w fun v w' => Mod T w w' ∧ K' v (Grow T w w') w')
    (h : ∀ v, Inh T0 w0 B (K' v) → TG P ops Q T0 w0 κ υ r (a.put o.dst v) B (K' v)) : TG P ops Q T0 w0 κ υ (i :: r) a B K := by
  refine .eff K' ho hk hw ⟨hcl, fun T w k1 k2 k3 k4 k5 => ?_⟩ h
  have key : ∀ v w', Mod T w w' ∧ K' v (Grow T w w') w' → ∃ T', K' v T' w' ∧ Mod T w w' ∧ (∀ i, T' i → T i ∨ w.heap.size ≤ i) ∧ (∀ i, T' i → i < w'.heap.size) := fun v w' h => by
    refine ⟨_, h.2, h.1, fun i hi => ?_, fun i hi => ?_⟩
    · rcases hi with hi | hi
      · exact .inl hi
      · exact .inr hi.1
    · rcases hi with hi | hi
      · exact Nat.lt_of_lt_of_le (k2 i hi) h.1.size
      · exact hi.2
  rcases hd T w k1 k2 k4 (fun p b hb ht => (k5 p b hb ht).2) with ⟨v, w', h1, h2⟩ | ⟨w', h1, h2⟩ | ⟨f, args, h1, h2⟩
  · exact .inl ⟨v, w', h1, key _ _ h2⟩
  · exact .inr (.inl ⟨w', h1, key _ _ h2⟩)
  · refine .inr (.inr ⟨f, args, h1, h2.mono ?_⟩)
    rintro e w' ⟨v, he, hv⟩
    exact ⟨v, he, key _ _ hv⟩
/-- What is known hangs on the owned blocks alone, and stays where more are owned. -/
structure Good (K : Land) : Prop where
  cl : Closed K
  gr : ∀ T T' w, (∀ i, T i → T' i) → K T w → K T' w
theorem Good.true : Good (fun _ _ => True) := ⟨fun _ _ _ _ _ => trivial, fun _ _ _ _ _ => trivial⟩
theorem Good.pure (p : Prop) : Good (fun _ _ => p) := ⟨fun _ _ _ h _ => h, fun _ _ _ _ h => h⟩
theorem Good.and {K L : Land} (hK : Good K) (hL : Good L) : Good (fun T w => K T w ∧ L T w) :=
  ⟨fun T w w' h hm => ⟨hK.cl T w w' h.1 hm, hL.cl T w w' h.2 hm⟩, fun T T' w hT h => ⟨hK.gr T T' w hT h.1, hL.gr T T' w hT h.2⟩⟩
theorem Good.ex {α : Type} {K : α → Land} (h : ∀ x, Good (K x)) : Good (fun T w => ∃ x, K x T w) :=
  ⟨fun T w w' ⟨x, hx⟩ hm => ⟨x, (h x).cl T w w' hx hm⟩, fun T T' w hT ⟨x, hx⟩ => ⟨x, (h x).gr T T' w hT hx⟩⟩
theorem Good.own (b : Nat) : Good (fun T _ => T b) := ⟨fun _ _ _ h _ => h, fun _ _ _ hT h => hT _ h⟩
theorem Good.at (b : Nat) (o : Obj) : Good (fun T w => T b ∧ w.heap[b]? = some o) :=
  ⟨fun T w w' h hm => ⟨h.1, hm.at h.2 (fun hn => hn h.1)⟩, fun T T' w hT h => ⟨hT _ h.1, h.2⟩⟩
/-- A call that changes what is owned. -/
theorem TG.callK {i : Nat} {r : List Nat} {a : Act} {B : Bx} {K : Land} {o : Oper} {f : FuncId} {args : Array Value} (K' : Value → Land) (hcl : ∀ v, Good (K' v)) (ho : ops[i]? = some o) (hk : κ i = 6) (hw : Region.wanted o (yielded ops a.tmps) = true)
    (hy : ∀ w, (execOp a.eval o).run P w = .ok (.enter f args) w)
    (hd : ∀ T w, K T w → (∀ i, T i → i < w.heap.size) → Mod T0 w0 w → UB T (υ i) B w → Calls P f args w fun e w' => ∃ v, e = .returned v ∧ Mod T w w' ∧ K' v (Grow T w w') w')
    (h : ∀ v, Inh T0 w0 B (K' v) → TG P ops Q T0 w0 κ υ r (a.put o.dst v) B (K' v)) : TG P ops Q T0 w0 κ υ (i :: r) a B K :=
  TG.eff' K' ho hk hw (fun v => (hcl v).cl) (fun T w k1 k2 k3 k4 => .inr (.inr ⟨f, args, hy w, hd T w k1 k2 k3 k4⟩)) h
/-- A call that only makes memory, of which its value alone is told. -/
theorem TG.callN {i : Nat} {r : List Nat} {a : Act} {B : Bx} {K : Land} {o : Oper} {f : FuncId} {args : Array Value} (C : Value → Prop) (hK : Good K) (ho : ops[i]? = some o) (hk : κ i = 6) (hw : Region.wanted o (yielded ops a.tmps) = true)
    (hy : ∀ w, (execOp a.eval o).run P w = .ok (.enter f args) w)
    (hd : ∀ T w, K T w → (∀ i, T i → i < w.heap.size) → Mod T0 w0 w → UB T (υ i) B w → Calls P f args w fun e w' => ∃ v, e = .returned v ∧ C v ∧ Mod (fun _ => False) w w')
    (h : ∀ v, C v → TG P ops Q T0 w0 κ υ r (a.put o.dst v) B K) : TG P ops Q T0 w0 κ υ (i :: r) a B K := by
  refine TG.callK (fun v T w => C v ∧ K T w) (fun v => (Good.pure (C v)).and hK) ho hk hw hy (fun T w k1 k2 k3 k4 => (hd T w k1 k2 k3 k4).mono ?_) (fun v hv => ?_)
  · rintro e w' ⟨v, he, hv, hm⟩
    exact ⟨v, he, hm.mono (fun _ _ h => h.elim), hv, hK.gr _ _ _ (fun _ h => .inl h) (hK.cl T w w' k1 (hm.mono (fun _ _ h => h.elim)))⟩
  · obtain ⟨w, T, hR⟩ := hv
    exact (h v hR.k.1).mono fun T w hk => hk.2
/-- A call that only makes memory, of which something is told. -/
theorem TG.callM {i : Nat} {r : List Nat} {a : Act} {B : Bx} {K : Land} {o : Oper} {f : FuncId} {args : Array Value} (L : Value → Land) (hL : ∀ v, Good (L v)) (hK : Good K) (ho : ops[i]? = some o) (hk : κ i = 6) (hw : Region.wanted o (yielded ops a.tmps) = true)
    (hy : ∀ w, (execOp a.eval o).run P w = .ok (.enter f args) w)
    (hd : ∀ T w, K T w → (∀ i, T i → i < w.heap.size) → Mod T0 w0 w → UB T (υ i) B w → Calls P f args w fun e w' => ∃ v, e = .returned v ∧ Mod (fun _ => False) w w' ∧ L v (Grow T w w') w')
    (h : ∀ v, Inh T0 w0 B (fun T w => K T w ∧ L v T w) → TG P ops Q T0 w0 κ υ r (a.put o.dst v) B (fun T w => K T w ∧ L v T w)) : TG P ops Q T0 w0 κ υ (i :: r) a B K := by
  refine TG.callK (fun v T w => K T w ∧ L v T w) (fun v => hK.and (hL v)) ho hk hw hy (fun T w k1 k2 k3 k4 => (hd T w k1 k2 k3 k4).mono ?_) h
  rintro e w' ⟨v, he, hm, hl⟩
  exact ⟨v, he, hm.mono (fun _ _ h => h.elim), hK.gr _ _ _ (fun _ h => .inl h) (hK.cl T w w' k1 (hm.mono (fun _ _ h => h.elim))), hl⟩
theorem TG.entry {i : Nat} {r : List Nat} {a : Act} {B : Bx} {K : Land} {o : Oper} {x : Operand} {p v : Value} (ho : ops[i]? = some o) (hk : κ i = 0) (hw : Region.wanted o (yielded ops a.tmps) = true)
    (hop : o.op = .entry x) (hx : a.eval x = p) (hr : ∀ w, Mod T0 w0 w → (Instr.entry p).run P w = .ok v w) (h : TG P ops Q T0 w0 κ υ r (a.put o.dst v) B K) : TG P ops Q T0 w0 κ υ (i :: r) a B K :=
  TG.v ho hk hw (fun w hs => by subst hx; simp [execOp, hop, hr w hs]) h
theorem TG.xcall {i : Nat} {r : List Nat} {a : Act} {B : Bx} {K : Land} {o : Oper} {f : FuncId} {args : Array Operand} {ts : Array TypeId} {vs : Array Value} {v : Value} (ho : ops[i]? = some o) (hk : κ i = 0) (hw : Region.wanted o (yielded ops a.tmps) = true)
    (hop : o.op = .call { callee := .value (.func f), args := args, argTypes := ts }) (hx : args.map a.eval = vs) (hr : ∀ w, (callFunc f vs).run P w = .ok (.value v) w) (h : TG P ops Q T0 w0 κ υ r (a.put o.dst v) B K) : TG P ops Q T0 w0 κ υ (i :: r) a B K :=
  TG.v0 ho hk hw (fun w => by
    subst hx
    have := hr w
    simp [execOp, hop, resolve, Deferred.ofValue, Act.eval, invoke, this]) h
theorem TG.slice {i : Nat} {r : List Nat} {a : Act} {B : Bx} {K : Land} {o : Oper} {T : TypeId} {s : Operand} {lo hi mx : Option Operand} {v w' : Value} {l' h' m' : Option Value} (ho : ops[i]? = some o) (hk : κ i = 0) (hw : Region.wanted o (yielded ops a.tmps) = true)
    (hop : o.op = .slice T s lo hi mx) (hs : a.eval s = v) (hl : lo.map a.eval = l') (hh : hi.map a.eval = h') (hm : mx.map a.eval = m') (hr : ∀ w, (Instr.sliceAt T v l' h' m').run P w = .ok w' w) (h : TG P ops Q T0 w0 κ υ r (a.put o.dst w') B K) : TG P ops Q T0 w0 κ υ (i :: r) a B K :=
  TG.v0 ho hk hw (fun w => by subst hs; subst hl; subst hh; subst hm; simp [execOp, hop, hr w]) h
theorem TG.bslice {i : Nat} {r : List Nat} {a : Act} {B : Bx} {K : Land} {o : Oper} {d : Tmp} {T E : TypeId} {n : Nat} {parts : Array (Nat × Operand)} {ps : Array (Nat × Value)} {z : Array Value} (ho : ops[i]? = some o) (hk : κ i = 3)
    (hw : Region.wanted o (yielded ops a.tmps) = true) (hd : o.dst = some d) (hop : o.op = .buildSlice T n parts) (hx : parts.map (fun (p : Nat × Operand) => (p.1, a.eval p.2)) = ps)
    (hr : ∀ w, (Instr.buildSlice T n ps).run P w = .ok (.slice (some ⟨w.heap.size, 0, none⟩) n n) (w.alloc (.cells z E)))
    (h : ∀ p, B p = none → Inh T0 w0 (B.set p ⟨z, E, d⟩) K → TG P ops Q T0 w0 κ υ r (a.put o.dst (.slice (some ⟨p, 0, none⟩) n n)) (B.set p ⟨z, E, d⟩) K) : TG P ops Q T0 w0 κ υ (i :: r) a B K :=
  .alloc (fun p => .slice (some ⟨p, 0, none⟩) n n) ho hk hw hd (fun w => by subst hx; simp [execOp, hop, hr w]) h
theorem TG.box {i : Nat} {r : List Nat} {a : Act} {B : Bx} {K : Land} {o : Oper} {d : Tmp} {T : TypeId} {x : Operand} {v : Value} (ho : ops[i]? = some o) (hk : κ i = 3)
    (hw : Region.wanted o (yielded ops a.tmps) = true) (hd : o.dst = some d) (hop : o.op = .box T x) (hx : a.eval x = v)
    (h : ∀ p, B p = none → Inh T0 w0 (B.set p ⟨v.cells, T, d⟩) K → TG P ops Q T0 w0 κ υ r (a.put o.dst (.pointer (some ⟨p, 0, none⟩))) (B.set p ⟨v.cells, T, d⟩) K) : TG P ops Q T0 w0 κ υ (i :: r) a B K :=
  .alloc (fun p => .pointer (some ⟨p, 0, none⟩)) ho hk hw hd (fun w => by subst hx; simp [execOp, hop, Instr.box, newVar, newRow, newObj]; rfl) h
theorem TG.storeB {i : Nat} {r : List Nat} {a : Act} {B : Bx} {K : Land} {o : Oper} {d : Tmp} {T : TypeId} {y : Operand} {p : Nat} {b : LB} {v : Value} (ho : ops[i]? = some o) (hk : κ i = 4)
    (hw : Region.wanted o (yielded ops a.tmps) = true) (hd : o.dst = none) (hop : o.op = .store T (.tmp d) y) (hev : a.eval (.tmp d) = .pointer (some ⟨p, 0, none⟩)) (hyv : a.eval y = v) (hb : B p = some b) (htag : b.tag = d)
    (hr : ∀ w, w.heap[p]? = some (.cells b.cells b.ty (0, 0)) → (Instr.storeAt T (.pointer (some ⟨p, 0, none⟩)) v).run P w = .ok () (setBlock w p (.cells v.cells b.ty (0, 0))))
    (h : TG P ops Q T0 w0 κ υ r a (B.set p { b with cells := v.cells }) K) : TG P ops Q T0 w0 κ υ (i :: r) a B K := by
  subst hyv
  exact .store ho hk hw hd hop hev hb htag (fun w hw => by simp [execOp, hop, hev, hr w hw]) h
/-- Told of the end: what is known of the world behind the region. -/
theorem UB.box {T : Nat → Prop} {us : List Tmp} {B : Bx} {w : World} (h : UB T us B w) {p : Nat} {b : LB} (hb : B p = some b) (ht : b.tag ∈ us) : w.heap[p]? = some (.cells b.cells b.ty (0, 0)) := (h p b hb ht).2
end
end Go.Proofs.Ytofpnmoeimjnnaa
