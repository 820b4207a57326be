/- A region that draws its order, by one pass over its operations in one order: copies, reads, new boxes with their stores, calls that only lay new blocks, and at most one effect behind them. -/
import Derived.Test.YtofpnmoeimjnnaaLib
import Derived.OrdersHeld
import Derived.KernelRfl
namespace Go.Proofs.Ytofpnmoeimjnnaa
open Go.ChangeMaps (setBlock)
set_option linter.unusedVariables false
set_option linter.unusedSimpArgs false
set_option linter.unusedSectionVars false

/-! ### 1. Boxes of the region's own -/
structure LB where
  cells : Array Value
  ty : TypeId
  tag : Tmp
abbrev Bx := Nat → Option LB
def Bx.nil : Bx := fun _ => none
def Bx.set (B : Bx) (p : Nat) (b : LB) : Bx := fun q => if q = p then some b else B q
def Bx.Fin (B : Bx) : Prop := ∃ n, ∀ p, n ≤ p → B p = none
theorem Bx.nil_fin : Bx.nil.Fin := ⟨0, fun _ _ => rfl⟩
theorem Bx.Fin.set {B : Bx} (h : B.Fin) (p : Nat) (b : LB) : (B.set p b).Fin := by
  obtain ⟨n, hn⟩ := h
  exact ⟨max n (p + 1), fun q hq => by
    unfold Bx.set
    rw [if_neg (by omega), hn q (by omega)]⟩
theorem Bx.Fin.fresh {B : Bx} (h : B.Fin) (q : Nat) : ∃ p, B p = none ∧ p ≠ q := by
  obtain ⟨n, hn⟩ := h
  exact ⟨max n (q + 1), hn _ (by omega), by omega⟩
theorem Bx.set_comm (B : Bx) {p q : Nat} (h : p ≠ q) (b c : LB) : (B.set p b).set q c = (B.set q c).set p b := by
  funext r
  unfold Bx.set
  by_cases h1 : r = q
  · subst h1; simp [Ne.symm h]
  · simp [h1]
theorem Bx.set_same (B : Bx) (p : Nat) (b : LB) : (B.set p b) p = some b := by simp [Bx.set]
theorem Bx.set_ne (B : Bx) {p q : Nat} (h : q ≠ p) (b : LB) : (B.set p b) q = B q := by simp [Bx.set, h]
theorem Bx.set_none {B : Bx} {p q : Nat} {b : LB} (h : (B.set p b) q = none) : q ≠ p ∧ B q = none := by
  unfold Bx.set at h
  split at h
  · cases h
  · rename_i hne; exact ⟨hne, h⟩

/-- What is known of the world inside the region. -/
structure Rel (w0 : World) (B : Bx) (w : World) : Prop where
  mod : Mod (fun _ => False) w0 w
  box : ∀ p b, B p = some b → w0.heap.size ≤ p ∧ w.heap[p]? = some (.cells b.cells b.ty (0, 0))

theorem Rel.start (w : World) : Rel w Bx.nil w := ⟨Mod.refl _ _, fun _ _ h => by cases h⟩
theorem Rel.none {w0 w : World} {B : Bx} (h : Rel w0 B w) : B w.heap.size = Option.none := by
  cases hb : B w.heap.size with
  | none => rfl
  | some b => have := lt_size (h.box _ _ hb).2; omega
theorem Rel.mods {w0 w w' : World} {B : Bx} (h : Rel w0 B w) (hm : Mod (fun _ => False) w w') : Rel w0 B w' :=
  ⟨h.mod.trans hm, fun p b hb => ⟨(h.box p b hb).1, hm.at (h.box p b hb).2 (fun x => x)⟩⟩
theorem Rel.alloc {w0 w : World} {B : Bx} (h : Rel w0 B w) (z : Array Value) (T : TypeId) (d : Tmp) :
    Rel w0 (B.set w.heap.size ⟨z, T, d⟩) (w.alloc (.cells z T)) := by
  refine ⟨h.mod.alloc _, fun p b hb => ?_⟩
  unfold Bx.set at hb
  split at hb
  · rename_i hp
    subst hp
    cases hb
    exact ⟨h.mod.size, by rw [heap_alloc_new]⟩
  · have := h.box p b hb
    exact ⟨this.1, by rw [heap_alloc_old w _ (lt_size this.2)]; exact this.2⟩
theorem Rel.store {w0 w : World} {B : Bx} (h : Rel w0 B w) {p : Nat} {b : LB} (hb : B p = some b) (cs : Array Value) :
    Rel w0 (B.set p { b with cells := cs }) (setBlock w p (.cells cs b.ty (0, 0))) := by
  have hp := h.box p b hb
  refine ⟨h.mod.setBlock _ (fun hlt => absurd hlt (Nat.not_lt.2 hp.1)), fun q c hc => ?_⟩
  unfold Bx.set at hc
  split at hc
  · rename_i hq
    subst hq
    cases hc
    exact ⟨hp.1, heap_setBlock w _ (lt_size hp.2)⟩
  · rename_i hq
    have := h.box q c hc
    exact ⟨this.1, by rw [heap_setBlock_ne w _ hq]; exact this.2⟩

theorem Rel.free {w0 w : World} {B : Bx} (h : Rel w0 B w) {p : Nat} (hp : w.heap.size ≤ p) : B p = Option.none := by
  cases hb : B p with
  | none => rfl
  | some b => have := lt_size (h.box _ _ hb).2; omega
theorem Rel.cbox {w0 w w' : World} {B : Bx} (h : Rel w0 B w) (hm : Mod (fun _ => False) w w') {p : Nat} {z : Array Value} {T : TypeId} (d : Tmp) (hp : w.heap.size ≤ p) (hk : w'.heap[p]? = some (.cells z T (0, 0))) : Rel w0 (B.set p ⟨z, T, d⟩) w' := by
  refine ⟨h.mod.trans hm, fun q b hb => ?_⟩
  unfold Bx.set at hb
  split at hb
  · rename_i hq
    subst hq
    cases hb
    exact ⟨Nat.le_trans h.mod.size hp, hk⟩
  · have := h.box q b hb
    exact ⟨this.1, hm.at this.2 (fun x => x)⟩
theorem grown (w : World) : ∀ n : Nat, ∃ w', Mod (fun _ => False) w w' ∧ w.heap.size + n ≤ w'.heap.size
  | 0 => ⟨w, Mod.refl _ _, Nat.le_refl _⟩
  | n + 1 => by
    obtain ⟨w', hm, hs⟩ := grown w n
    exact ⟨_, hm.alloc (.cells #[] 0), by have := lt_size (heap_alloc_new w' (.cells #[] 0)); omega⟩

/-! ### 2. The pass -/
section
variable (P : Program) (ops : Array Oper) (Q : Exit → Act → World → Prop) (S : World → Prop) (C : FuncId → Array Value → Value → Prop) (w0 : World) (κ : Nat → Nat)

/-- A callee that only lays new blocks. -/
def Spec (f : FuncId) (args : Array Value) : Prop :=
  ∀ w, S w → Calls P f args w fun e w' => ∃ v, e = .returned v ∧ C f args v ∧ Mod (fun _ => False) w w'

/-- A callee that only lays new blocks, of which the cells of one are told. -/
def CSpec (f : FuncId) (args : Array Value) : Prop :=
  ∀ w, S w → Calls P f args w fun e w' => ∃ (v : Value) (p : Nat) (z : Array Value) (T : TypeId), e = .returned v ∧ C f #[.tuple args, .agg z, .int .i64 (p : Int)] v ∧ w.heap.size ≤ p ∧ w'.heap[p]? = some (.cells z T (0, 0)) ∧ Mod (fun _ => False) w w'

def NPre (k : Nat) (o : Oper) (a : Act) : Prop :=
  (k = 0 ∧ ∃ v, YieldsIf P ops (fun _ => True) o v a) ∨ (k = 1 ∧ ∃ v, YieldsIf P ops S o v a) ∨
  (k = 2 ∧ ∃ f args, Region.wanted o (yielded ops a.tmps) = true ∧ (∀ w, (execOp a.eval o).run P w = .ok (.enter f args) w) ∧ Spec P S C f args)
def NStep (k : Nat) (o : Oper) (a : Act) (v : Value) : Prop :=
  (k = 0 ∧ YieldsIf P ops (fun _ => True) o v a) ∨ (k = 1 ∧ YieldsIf P ops S o v a) ∨
  (k = 2 ∧ ∃ f args, Region.wanted o (yielded ops a.tmps) = true ∧ (∀ w, (execOp a.eval o).run P w = .ok (.enter f args) w) ∧ Spec P S C f args ∧ C f args v)

/-- Behind the effect: copies alone. -/
inductive TE : List Nat → Act → World → Prop
  | nil {a : Act} {w : World} : Q .normal a w → TE [] a w
  | val {i : Nat} {r : List Nat} {o : Oper} {a : Act} {w : World} {v : Value} : ops[i]? = some o → YieldsIf P ops (fun _ => True) o v a → TE r (a.put o.dst v) w → TE (i :: r) a w
  | eff {i : Nat} {r : List Nat} {o : Oper} {a : Act} {w : World} (R : Act → World → Prop) : ops[i]? = some o → κ i = 6 → wpOp P ops Q i R a w → (∀ a' w', R a' w' → TE r a' w') → TE (i :: r) a w

inductive TD : List Nat → Act → Bx → Prop
  | nil {a : Act} {B : Bx} : (∀ w', Rel w0 B w' → Q .normal a w') → TD [] a B
  | neu {i : Nat} {r : List Nat} {o : Oper} {a : Act} {B : Bx} : ops[i]? = some o → κ i ≤ 2 → NPre P ops S C (κ i) o a →
      (∀ v, NStep P ops S C (κ i) o a v → TD r (a.put o.dst v) B) → TD (i :: r) a B
  | alloc {i : Nat} {r : List Nat} {o : Oper} {a : Act} {B : Bx} {d : Tmp} {T : TypeId} {z : Array Value} (V : Nat → Value) : ops[i]? = some o → κ i = 3 →
      Region.wanted o (yielded ops a.tmps) = true → o.dst = some d →
      (∀ w, (execOp a.eval o).run P w = .ok (.value (V w.heap.size)) (w.alloc (.cells z T))) →
      (∀ p, B p = none → TD r (a.put o.dst (V p)) (B.set p ⟨z, T, d⟩)) → TD (i :: r) a B
  | store {i : Nat} {r : List Nat} {o : Oper} {a : Act} {B : Bx} {d : Tmp} {T : TypeId} {y : Operand} {p : Nat} {b : LB} : ops[i]? = some o → κ i = 4 →
      Region.wanted o (yielded ops a.tmps) = true → o.dst = none → o.op = .store T (.tmp d) y → a.eval (.tmp d) = .pointer (some ⟨p, 0, none⟩) → B p = some b → b.tag = d →
      (∀ w, w.heap[p]? = some (.cells b.cells b.ty (0, 0)) → (execOp a.eval o).run P w = .ok .skip (setBlock w p (.cells (a.eval y).cells b.ty (0, 0)))) →
      TD r a (B.set p { b with cells := (a.eval y).cells }) → TD (i :: r) a B
  | cbox {i : Nat} {r : List Nat} {o : Oper} {a : Act} {B : Bx} {d : Tmp} {f : FuncId} {args : Array Value} : ops[i]? = some o → κ i = 7 → Region.wanted o (yielded ops a.tmps) = true → o.dst = some d →
      (∀ w, (execOp a.eval o).run P w = .ok (.enter f args) w) → CSpec P S C f args →
      (∀ (v : Value) (p : Nat) (z : Array Value) (T : TypeId), C f #[.tuple args, .agg z, .int .i64 (p : Int)] v → B p = none → TD r (a.put o.dst v) (B.set p ⟨z, T, d⟩)) → TD (i :: r) a B
  | eff {i : Nat} {r : List Nat} {o : Oper} {a : Act} {B : Bx} : ops[i]? = some o → κ i = 5 →
      (∀ w', Rel w0 B w' → wpOp P ops Q i (fun a' w'' => TE P ops Q κ r a' w'') a w') → TD (i :: r) a B
end

section
variable {P : Program} {ops : Array Oper} {Q : Exit → Act → World → Prop} {S : World → Prop} {C : FuncId → Array Value → Value → Prop} {w0 : World} {κ : Nat → Nat}

theorem NStep.pre {k : Nat} {o : Oper} {a : Act} {v : Value} (h : NStep P ops S C k o a v) : NPre P ops S C k o a := by
  rcases h with ⟨hk, h⟩ | ⟨hk, h⟩ | ⟨hk, f, args, h1, h2, h3, _⟩
  · exact .inl ⟨hk, v, h⟩
  · exact .inr (.inl ⟨hk, v, h⟩)
  · exact .inr (.inr ⟨hk, f, args, h1, h2, h3⟩)
theorem NPre.step {k : Nat} {o : Oper} {a : Act} (hS : S w0) (h : NPre P ops S C k o a) : ∃ v, NStep P ops S C k o a v := by
  rcases h with ⟨hk, v, h⟩ | ⟨hk, v, h⟩ | ⟨hk, f, args, h1, h2, h3⟩
  · exact ⟨v, .inl ⟨hk, h⟩⟩
  · exact ⟨v, .inr (.inl ⟨hk, h⟩)⟩
  · obtain ⟨e, w', fr, ⟨v, _, hv, _⟩, _⟩ := h3 w0 hS []
    exact ⟨v, .inr (.inr ⟨hk, f, args, h1, h2, h3, hv⟩)⟩
theorem NPre.same {k : Nat} {o : Oper} {a a' : Act} (he : execOp a'.eval o = execOp a.eval o)
    (hw : Region.wanted o (yielded ops a'.tmps) = Region.wanted o (yielded ops a.tmps)) (h : NPre P ops S C k o a) : NPre P ops S C k o a' := by
  rcases h with ⟨hk, v, h⟩ | ⟨hk, v, h⟩ | ⟨hk, f, args, h1, h2, h3⟩
  · exact .inl ⟨hk, v, h.of_same he hw⟩
  · exact .inr (.inl ⟨hk, v, h.of_same he hw⟩)
  · exact .inr (.inr ⟨hk, f, args, by rw [hw]; exact h1, by rw [he]; exact h2, h3⟩)
theorem NStep.same {k : Nat} {o : Oper} {a a' : Act} {v : Value} (he : execOp a'.eval o = execOp a.eval o)
    (hw : Region.wanted o (yielded ops a'.tmps) = Region.wanted o (yielded ops a.tmps)) (h : NStep P ops S C k o a v) : NStep P ops S C k o a' v := by
  rcases h with ⟨hk, h⟩ | ⟨hk, h⟩ | ⟨hk, f, args, h1, h2, h3⟩
  · exact .inl ⟨hk, h.of_same he hw⟩
  · exact .inr (.inl ⟨hk, h.of_same he hw⟩)
  · exact .inr (.inr ⟨hk, f, args, by rw [hw]; exact h1, by rw [he]; exact h2, h3⟩)

/-! Inversions by the kind. -/
theorem TD.inv_neu {i : Nat} {r : List Nat} {a : Act} {B : Bx} (h : TD P ops Q S C w0 κ (i :: r) a B) (hk : κ i ≤ 2) {o : Oper} (ho : ops[i]? = some o) :
    NPre P ops S C (κ i) o a ∧ ∀ v, NStep P ops S C (κ i) o a v → TD P ops Q S C w0 κ r (a.put o.dst v) B := by
  cases h with
  | neu ho' _ h1 h2 => rw [ho] at ho'; cases ho'; exact ⟨h1, h2⟩
  | alloc _ _ hk' => omega
  | store _ hk' => omega
  | eff _ hk' => omega
  | cbox _ hk' => omega
theorem TD.inv_alloc {i : Nat} {r : List Nat} {a : Act} {B : Bx} (h : TD P ops Q S C w0 κ (i :: r) a B) (hk : κ i = 3) {o : Oper} (ho : ops[i]? = some o) :
    Region.wanted o (yielded ops a.tmps) = true ∧ ∃ (d : Tmp) (T : TypeId) (z : Array Value) (V : Nat → Value), o.dst = some d ∧
      (∀ w, (execOp a.eval o).run P w = .ok (.value (V w.heap.size)) (w.alloc (.cells z T))) ∧
      ∀ p, B p = none → TD P ops Q S C w0 κ r (a.put o.dst (V p)) (B.set p ⟨z, T, d⟩) := by
  cases h with
  | neu _ hk' => omega
  | alloc V ho' _ h1 h2 h3 h4 => rw [ho] at ho'; cases ho'; exact ⟨h1, _, _, _, V, h2, h3, h4⟩
  | store _ hk' => omega
  | eff _ hk' => omega
  | cbox _ hk' => omega
theorem TD.inv_store {i : Nat} {r : List Nat} {a : Act} {B : Bx} (h : TD P ops Q S C w0 κ (i :: r) a B) (hk : κ i = 4) {o : Oper} (ho : ops[i]? = some o) :
    Region.wanted o (yielded ops a.tmps) = true ∧ o.dst = none ∧ ∃ d T y p b, o.op = .store T (.tmp d) y ∧ a.eval (.tmp d) = .pointer (some ⟨p, 0, none⟩) ∧ B p = some b ∧ b.tag = d ∧
      (∀ w, w.heap[p]? = some (.cells b.cells b.ty (0, 0)) → (execOp a.eval o).run P w = .ok .skip (setBlock w p (.cells (a.eval y).cells b.ty (0, 0)))) ∧
      TD P ops Q S C w0 κ r a (B.set p { b with cells := (a.eval y).cells }) := by
  cases h with
  | neu _ hk' => omega
  | alloc _ _ hk' => omega
  | store ho' _ h1 h2 h3 h4 h5 h6 h7 h8 => rw [ho] at ho'; cases ho'; exact ⟨h1, h2, _, _, _, _, _, h3, h4, h5, h6, h7, h8⟩
  | eff _ hk' => omega
  | cbox _ hk' => omega
theorem TD.inv_eff {i : Nat} {r : List Nat} {a : Act} {B : Bx} (h : TD P ops Q S C w0 κ (i :: r) a B) (hk : κ i = 5) :
    ∀ w', Rel w0 B w' → wpOp P ops Q i (fun a' w'' => TE P ops Q κ r a' w'') a w' := by
  cases h with
  | neu _ hk' => omega
  | alloc _ _ hk' => omega
  | store _ hk' => omega
  | eff _ _ h => exact h
  | cbox _ hk' => omega
theorem TD.inv_cbox {i : Nat} {r : List Nat} {a : Act} {B : Bx} (h : TD P ops Q S C w0 κ (i :: r) a B) (hk : κ i = 7) {o : Oper} (ho : ops[i]? = some o) :
    Region.wanted o (yielded ops a.tmps) = true ∧ ∃ (d : Tmp) (f : FuncId) (args : Array Value), o.dst = some d ∧ (∀ w, (execOp a.eval o).run P w = .ok (.enter f args) w) ∧ CSpec P S C f args ∧
      ∀ (v : Value) (p : Nat) (z : Array Value) (T : TypeId), C f #[.tuple args, .agg z, .int .i64 (p : Int)] v → B p = none → TD P ops Q S C w0 κ r (a.put o.dst v) (B.set p ⟨z, T, d⟩) := by
  cases h with
  | neu _ hk' => omega
  | alloc _ _ hk' => omega
  | store _ hk' => omega
  | eff _ hk' => omega
  | cbox ho' _ h1 h2 h3 h4 h5 => rw [ho] at ho'; cases ho'; exact ⟨h1, _, _, _, h2, h3, h4, h5⟩
theorem CSpec.some (hSt : ∀ w', Mod (fun _ => False) w0 w' → S w') {f : FuncId} {args : Array Value} (h : CSpec P S C f args) {B : Bx} (hB : B.Fin) (q : Nat) :
    ∃ (v : Value) (p : Nat) (z : Array Value), C f #[.tuple args, .agg z, .int .i64 (p : Int)] v ∧ B p = none ∧ p ≠ q := by
  obtain ⟨n, hn⟩ := hB
  obtain ⟨w, hm, hs⟩ := grown w0 (n + q + 1)
  obtain ⟨e, w', fr, ⟨v, p, z, T, _, hC, hp, _⟩, _⟩ := h w (hSt w hm) []
  exact ⟨v, p, z, hC, hn p (by omega), by omega⟩
theorem enter_inj {s : Sem Next} {f f' : FuncId} {args args' : Array Value} (w0 : World) (h : ∀ w, s.run P w = .ok (.enter f args) w) (h' : ∀ w, s.run P w = .ok (.enter f' args') w) : f = f' ∧ args = args' := by
  have := (h w0).symm.trans (h' w0)
  simp only [Result.ok.injEq, Next.enter.injEq, and_true] at this
  exact this
theorem TD.kinds {i : Nat} {r : List Nat} {a : Act} {B : Bx} (h : TD P ops Q S C w0 κ (i :: r) a B) : κ i ≤ 2 ∨ κ i = 3 ∨ κ i = 4 ∨ κ i = 5 ∨ κ i = 7 := by
  cases h <;> omega

theorem val_inj {P : Program} {s : Sem Next} {z : Array Value} {T : TypeId} {z' : Array Value} {T' : TypeId} {V V' : Nat → Value} (h : ∀ w : World, s.run P w = .ok (.value (V w.heap.size)) (w.alloc (.cells z T))) (h' : ∀ w : World, s.run P w = .ok (.value (V' w.heap.size)) (w.alloc (.cells z' T'))) : V = V' := by
  funext p
  have h1 := h { (default : World) with heap := Array.replicate p default }
  have h2 := h' { (default : World) with heap := Array.replicate p default }
  rw [h1] at h2
  simp only [Array.size_replicate, Result.ok.injEq, Next.value.injEq] at h2
  exact h2.1
theorem alloc_inj {w : World} {z z' : Array Value} {T T' : TypeId} (h : w.alloc (.cells z T) = w.alloc (.cells z' T')) : z = z' ∧ T = T' := by
  have h1 : w.heap.push (.cells z T) = w.heap.push (.cells z' T') := congrArg World.heap h
  have h2 := congrArg (fun h : Array Obj => h[w.heap.size]?) h1
  simpa using h2

/-- Operations that may change places: 'x' stood ahead of 'o'. -/
def kindsOk (kx ko : Nat) (ox oo : Oper) : Bool :=
  match kx, ko with
  | 0, 5 => true
  | 2, 2 => false
  | 2, 7 => false
  | 7, 2 => false
  | 7, 7 => false
  | 7, 5 => false
  | 4, 4 => match ox.op, oo.op with
    | .store _ (.tmp d) _, .store _ (.tmp e) _ => d != e
    | _, _ => false
  | x, o => (decide (x ≤ 4) || x == 7) && (decide (o ≤ 4) || o == 7)


section swap
variable {x o : Nat} {r : List Nat} {a : Act} {B : Bx} {ox oo : Oper}

theorem TD.swap (hsel : ∀ (j : Nat) (p : Oper) cs b, ops[j]? = some p → p.op ≠ .select cs b) (hQ : ∀ c a d v w, Q (.panic c) (Act.put a d v) w → Q (.panic c) a w)
    (hS : S w0) (hSt : ∀ w', Mod (fun _ => False) w0 w' → S w') (hB : B.Fin) (hx : ops[x]? = some ox) (ho : ops[o]? = some oo) (hap : ox.apart ops oo = true) (hk : kindsOk (κ x) (κ o) ox oo = true)
    (h : TD P ops Q S C w0 κ (x :: o :: r) a B) : TD P ops Q S C w0 κ (o :: x :: r) a B := by
  obtain ⟨h1, h2, h3⟩ := Oper.apart_spec hap
  have eo : ∀ (a : Act) v, execOp (a.put ox.dst v).eval oo = execOp a.eval oo := fun a v => execOp_put oo (fun cs b => hsel o oo cs b ho) a ox.dst v h1
  have wo : ∀ (a : Act) v, Region.wanted oo (yielded ops (a.put ox.dst v).tmps) = Region.wanted oo (yielded ops a.tmps) := fun a v => wanted_put oo a ox.dst v h1
  have ex : ∀ (a : Act) v, execOp (a.put oo.dst v).eval ox = execOp a.eval ox := fun a v => execOp_put ox (fun cs b => hsel x ox cs b hx) a oo.dst v h3
  have wx : ∀ (a : Act) v, Region.wanted ox (yielded ops (a.put oo.dst v).tmps) = Region.wanted ox (yielded ops a.tmps) := fun a v => wanted_put ox a oo.dst v h3
  have pc : ∀ (a : Act) u v, (a.put ox.dst u).put oo.dst v = (a.put oo.dst v).put ox.dst u := fun a u v => Act.put_comm a u v h2
  have evx : ∀ (a : Act) v (y : Tmp), y ∈ ox.looksAt ops → (a.put oo.dst v).eval (.tmp y) = a.eval (.tmp y) := fun a v y hy => Act.eval_put (fun d hd e => h3 d hd (by cases e; exact hy))
  have evo : ∀ (a : Act) v (y : Tmp), y ∈ oo.looksAt ops → (a.put ox.dst v).eval (.tmp y) = a.eval (.tmp y) := fun a v y hy => Act.eval_put (fun d hd e => h1 d hd (by cases e; exact hy))
  have evx' : ∀ (a : Act) v (y : Operand), y ∈ ox.op.operands → (a.put oo.dst v).eval y = a.eval y := fun a v y hy => Act.eval_put (fun d hd e => h3 d hd (by
    subst e
    exact List.mem_append_left _ (List.mem_filterMap.2 ⟨.tmp d, by simpa using hy, rfl⟩)))
  have evo' : ∀ (a : Act) v (y : Operand), y ∈ oo.op.operands → (a.put ox.dst v).eval y = a.eval y := fun a v y hy => Act.eval_put (fun d hd e => h1 d hd (by
    subst e
    exact List.mem_append_left _ (List.mem_filterMap.2 ⟨.tmp d, by simpa using hy, rfl⟩)))
  rcases h.kinds with kx | kx | kx | kx | kx
  · -- x is neutral
    obtain ⟨px, hx1⟩ := h.inv_neu kx hx
    obtain ⟨v0, hv0⟩ := px.step hS
    rcases (hx1 v0 hv0).kinds with ko | ko | ko | ko | ko
    · obtain ⟨po, _⟩ := (hx1 v0 hv0).inv_neu ko ho
      refine .neu ho ko (po.same (eo a v0).symm (wo a v0).symm) fun v hv => ?_
      refine .neu hx kx (px.same (ex a v) (wx a v)) fun u hu => ?_
      have hu' : NStep P ops S C (κ x) ox a u := hu.same (ex a v).symm (wx a v).symm
      rw [← pc]
      exact ((hx1 u hu').inv_neu ko ho).2 v (hv.same (eo a u) (wo a u))
    · obtain ⟨w1, d, T, z, V, hd, hr, _⟩ := (hx1 v0 hv0).inv_alloc ko ho
      rw [wo] at w1
      rw [eo] at hr
      refine .alloc V ho ko w1 hd hr fun p hp => ?_
      refine .neu hx kx (px.same (ex a _) (wx a _)) fun u hu => ?_
      have hu' : NStep P ops S C (κ x) ox a u := hu.same (ex a _).symm (wx a _).symm
      obtain ⟨_, d', T', z', V', hd', hr', ht⟩ := (hx1 u hu').inv_alloc ko ho
      rw [eo] at hr'
      obtain rfl := val_inj hr hr'
      have := (hr w0).symm.trans (hr' w0)
      simp only [Result.ok.injEq, true_and] at this
      obtain ⟨rfl, rfl⟩ := alloc_inj this
      rw [hd] at hd'
      cases hd'
      rw [← pc]
      exact ht p hp
    · obtain ⟨w1, hd, d, T, y, p, b, hop, hev, hb, htag, hr, _⟩ := (hx1 v0 hv0).inv_store ko ho
      rw [wo] at w1
      rw [eo] at hr
      rw [evo' a v0 _ (by simp [hop, Op.operands])] at hev
      rw [evo' a v0 _ (by simp [hop, Op.operands])] at hr
      refine .store ho ko w1 hd hop hev hb htag hr ?_
      refine .neu hx kx px fun u hu => ?_
      obtain ⟨_, _, d', T', y', p', b', hop', hev', hb', htag', hr', ht⟩ := (hx1 u hu).inv_store ko ho
      rw [hop] at hop'
      cases hop'
      rw [evo' a u _ (by simp [hop, Op.operands]), hev] at hev'
      simp only [Value.pointer.injEq, Option.some.injEq, Addr.mk.injEq, and_true] at hev'
      subst hev'
      rw [hb] at hb'
      cases hb'
      rw [evo' a u _ (by simp [hop, Op.operands])] at ht
      exact ht
    · have kx0 : κ x = 0 := by
        rw [ko] at hk
        unfold kindsOk at hk
        split at hk <;> simp_all
      have : ∀ w', Rel w0 B w' → wpOp P ops Q o (fun a' w'' => TE P ops Q κ (x :: r) a' w'') a w' := fun w' hw' => by
        obtain ⟨v1, hv1⟩ : ∃ v, YieldsIf P ops (fun _ => True) ox v a := by
          rcases px with ⟨_, hv⟩ | ⟨hk', _⟩ | ⟨hk', _⟩
          · exact hv
          · omega
          · omega
        have hE := (hx1 v1 (.inl ⟨kx0, hv1⟩)).inv_eff ko w' hw'
        exact wpOp_mono (fun a' w'' hh => .val hx hh.1 hh.2) (wpOp_putIf ho hap (fun cs b => hsel x ox cs b hx) (fun cs b => hsel o oo cs b ho) (fun c a w => hQ c a _ _ w) hv1 hE)
      exact .eff ho ko this
    · obtain ⟨w1, d, f, args, hd, hrun, hsp, _⟩ := (hx1 v0 hv0).inv_cbox ko ho
      rw [wo] at w1
      rw [eo] at hrun
      refine .cbox ho ko w1 hd hrun hsp fun v p z T hC hp => ?_
      refine .neu hx kx (px.same (ex a _) (wx a _)) fun u hu => ?_
      have hu' : NStep P ops S C (κ x) ox a u := hu.same (ex a _).symm (wx a _).symm
      obtain ⟨_, d', f', args', hd', hrun', _, ht⟩ := (hx1 u hu').inv_cbox ko ho
      rw [eo] at hrun'
      obtain ⟨rfl, rfl⟩ := enter_inj w0 hrun hrun'
      rw [hd] at hd'
      cases hd'
      rw [← pc]
      exact ht v p z T hC hp
  · -- x is a new box
    obtain ⟨w1, d, T, z, V, hd, hr, ht⟩ := h.inv_alloc kx hx
    obtain ⟨p0, hp0, _⟩ := hB.fresh 0
    rcases (ht p0 hp0).kinds with ko | ko | ko | ko | ko
    · obtain ⟨po, _⟩ := (ht p0 hp0).inv_neu ko ho
      refine .neu ho ko (po.same (eo a _).symm (wo a _).symm) fun v hv => ?_
      refine .alloc V hx kx (by rw [wx]; exact w1) hd (by rw [ex]; exact hr) fun p hp => ?_
      rw [← pc]
      exact ((ht p hp).inv_neu ko ho).2 v (hv.same (eo a _) (wo a _))
    · obtain ⟨w2, d2, T2, z2, V2, hd2, hr2, _⟩ := (ht p0 hp0).inv_alloc ko ho
      rw [wo] at w2
      rw [eo] at hr2
      refine .alloc V2 ho ko w2 hd2 hr2 fun p2 hp2 => ?_
      refine .alloc V hx kx (by rw [wx]; exact w1) hd (by rw [ex]; exact hr) fun p1 hp1 => ?_
      obtain ⟨hne, hp1'⟩ := Bx.set_none hp1
      obtain ⟨_, d', T', z', V', hd', hr', ht'⟩ := (ht p1 hp1').inv_alloc ko ho
      rw [eo] at hr'
      obtain rfl := val_inj hr2 hr'
      have := (hr2 w0).symm.trans (hr' w0)
      simp only [Result.ok.injEq, true_and] at this
      obtain ⟨rfl, rfl⟩ := alloc_inj this
      rw [hd2] at hd'
      cases hd'
      rw [← pc, Bx.set_comm _ (Ne.symm hne)]
      exact ht' p2 (by rw [Bx.set_ne _ (Ne.symm hne)]; exact hp2)
    · obtain ⟨_, _, d0, _, _, q0, _, hop0, hev0, _⟩ := (ht p0 hp0).inv_store ko ho
      obtain ⟨p1, hp1, hne1⟩ := hB.fresh q0
      obtain ⟨w2, hd2, d2, T2, y, p, b, hop, hev, hb, htag, hr2, _⟩ := (ht p1 hp1).inv_store ko ho
      rw [hop0] at hop
      cases hop
      rw [evo' a _ _ (by simp [hop0, Op.operands])] at hev hev0
      rw [hev0] at hev
      simp only [Value.pointer.injEq, Option.some.injEq, Addr.mk.injEq, and_true] at hev
      subst hev
      rw [Bx.set_ne _ (Ne.symm hne1)] at hb
      rw [wo] at w2
      rw [eo, evo' a _ _ (by simp [hop0, Op.operands])] at hr2
      refine .store ho ko w2 hd2 hop0 hev0 hb htag hr2 ?_
      refine .alloc V hx kx w1 hd hr fun p2 hp2 => ?_
      obtain ⟨hne, hp2'⟩ := Bx.set_none hp2
      obtain ⟨_, _, d', T', y', p', b', hop', hev', hb', htag', hr', ht'⟩ := (ht p2 hp2').inv_store ko ho
      rw [hop0] at hop'
      cases hop'
      rw [evo' a _ _ (by simp [hop0, Op.operands]), hev0] at hev'
      simp only [Value.pointer.injEq, Option.some.injEq, Addr.mk.injEq, and_true] at hev'
      subst hev'
      rw [Bx.set_ne _ (Ne.symm hne), hb] at hb'
      cases hb'
      rw [evo' a _ _ (by simp [hop0, Op.operands])] at ht'
      rw [Bx.set_comm _ (Ne.symm hne)]
      exact ht'
    · rw [kx, ko] at hk
      simp [kindsOk] at hk
    · obtain ⟨w2, d2, f, args, hd2, hrun, hsp, _⟩ := (ht p0 hp0).inv_cbox ko ho
      rw [wo] at w2
      rw [eo] at hrun
      refine .cbox ho ko w2 hd2 hrun hsp fun v p2 z2 T2 hC hp2 => ?_
      refine .alloc V hx kx (by rw [wx]; exact w1) hd (by rw [ex]; exact hr) fun p1 hp1 => ?_
      obtain ⟨hne, hp1'⟩ := Bx.set_none hp1
      obtain ⟨_, d', f', args', hd', hrun', _, ht'⟩ := (ht p1 hp1').inv_cbox ko ho
      rw [eo] at hrun'
      obtain ⟨rfl, rfl⟩ := enter_inj w0 hrun hrun'
      rw [hd2] at hd'
      cases hd'
      rw [← pc, Bx.set_comm _ (Ne.symm hne)]
      exact ht' v p2 z2 T2 hC (by rw [Bx.set_ne _ (Ne.symm hne)]; exact hp2)
  · -- x is a store into a new box
    obtain ⟨w1, hd, d, T, y, p, b, hop, hev, hb, htag, hr, ht⟩ := h.inv_store kx hx
    rcases ht.kinds with ko | ko | ko | ko | ko
    · obtain ⟨po, ht'⟩ := ht.inv_neu ko ho
      refine .neu ho ko po fun v hv => ?_
      refine .store (b := b) hx kx (by rw [wx]; exact w1) hd hop (by rw [evx' a _ _ (by simp [hop, Op.operands])]; exact hev) hb htag
        (by rw [ex, evx' a _ _ (by simp [hop, Op.operands])]; exact hr) ?_
      rw [evx' a _ _ (by simp [hop, Op.operands])]
      exact ht' v hv
    · obtain ⟨w2, d2, T2, z2, V2, hd2, hr2, ht'⟩ := ht.inv_alloc ko ho
      refine .alloc V2 ho ko w2 hd2 hr2 fun p2 hp2 => ?_
      have hne : p2 ≠ p := fun e => by rw [e, hb] at hp2; cases hp2
      refine .store (b := b) hx kx (by rw [wx]; exact w1) hd hop (by rw [evx' a _ _ (by simp [hop, Op.operands])]; exact hev) (by rw [Bx.set_ne _ (Ne.symm hne)]; exact hb) htag
        (by rw [ex, evx' a _ _ (by simp [hop, Op.operands])]; exact hr) ?_
      rw [evx' a _ _ (by simp [hop, Op.operands]), Bx.set_comm _ hne]
      exact ht' p2 (by rw [Bx.set_ne _ hne]; exact hp2)
    · obtain ⟨w2, hd2, d2, T2, y2, p2, b2, hop2, hev2, hb2, htag2, hr2, ht'⟩ := ht.inv_store ko ho
      have hne : d ≠ d2 := by
        rw [kx, ko] at hk
        simpa [kindsOk, hop, hop2] using hk
      have hpp : p2 ≠ p := fun e => by
        subst e
        rw [Bx.set_same] at hb2
        cases hb2
        exact hne (htag.symm.trans htag2)
      rw [Bx.set_ne _ hpp] at hb2
      refine .store (b := b2) ho ko w2 hd2 hop2 hev2 hb2 htag2 hr2 ?_
      refine .store (b := b) hx kx w1 hd hop hev (by rw [Bx.set_ne _ (Ne.symm hpp)]; exact hb) htag hr ?_
      rw [Bx.set_comm _ hpp]
      exact ht'
    · rw [kx, ko] at hk
      simp [kindsOk] at hk
    · obtain ⟨w2, d2, f, args, hd2, hrun, hsp, ht'⟩ := ht.inv_cbox ko ho
      refine .cbox ho ko w2 hd2 hrun hsp fun v p2 z2 T2 hC hp2 => ?_
      have hne : p2 ≠ p := fun e => by rw [e, hb] at hp2; cases hp2
      refine .store (b := b) hx kx (by rw [wx]; exact w1) hd hop (by rw [evx' a _ _ (by simp [hop, Op.operands])]; exact hev) (by rw [Bx.set_ne _ (Ne.symm hne)]; exact hb) htag
        (by rw [ex, evx' a _ _ (by simp [hop, Op.operands])]; exact hr) ?_
      rw [evx' a _ _ (by simp [hop, Op.operands]), Bx.set_comm _ hne]
      exact ht' v p2 z2 T2 hC (by rw [Bx.set_ne _ hne]; exact hp2)
  · -- x is the effect
    rw [kx] at hk
    unfold kindsOk at hk
    split at hk <;> simp_all
  · -- x is a call with a box
    obtain ⟨w1, d, f, args, hd, hrun, hsp, ht⟩ := h.inv_cbox kx hx
    obtain ⟨v0, p0, z0, hC0, hp0, _⟩ := hsp.some hSt hB 0
    rcases (ht v0 p0 z0 0 hC0 hp0).kinds with ko | ko | ko | ko | ko
    · obtain ⟨po, _⟩ := (ht v0 p0 z0 0 hC0 hp0).inv_neu ko ho
      refine .neu ho ko (po.same (eo a _).symm (wo a _).symm) fun v hv => ?_
      refine .cbox hx kx (by rw [wx]; exact w1) hd (by rw [ex]; exact hrun) hsp fun u p z T hC hp => ?_
      rw [← pc]
      exact ((ht u p z T hC hp).inv_neu ko ho).2 v (hv.same (eo a _) (wo a _))
    · obtain ⟨w2, d2, T2, z2, V2, hd2, hr2, _⟩ := (ht v0 p0 z0 0 hC0 hp0).inv_alloc ko ho
      rw [wo] at w2
      rw [eo] at hr2
      refine .alloc V2 ho ko w2 hd2 hr2 fun p2 hp2 => ?_
      refine .cbox hx kx (by rw [wx]; exact w1) hd (by rw [ex]; exact hrun) hsp fun u p1 z T hC hp1 => ?_
      obtain ⟨hne, hp1'⟩ := Bx.set_none hp1
      obtain ⟨_, d', T', z', V', hd', hr', ht'⟩ := (ht u p1 z T hC hp1').inv_alloc ko ho
      rw [eo] at hr'
      obtain rfl := val_inj hr2 hr'
      have := (hr2 w0).symm.trans (hr' w0)
      simp only [Result.ok.injEq, true_and] at this
      obtain ⟨rfl, rfl⟩ := alloc_inj this
      rw [hd2] at hd'
      cases hd'
      rw [← pc, Bx.set_comm _ (Ne.symm hne)]
      exact ht' p2 (by rw [Bx.set_ne _ (Ne.symm hne)]; exact hp2)
    · obtain ⟨_, _, d0, _, _, q0, _, hop0, hev0, _⟩ := (ht v0 p0 z0 0 hC0 hp0).inv_store ko ho
      obtain ⟨v1, p1, z1, hC1, hp1, hne1⟩ := hsp.some hSt hB q0
      obtain ⟨w2, hd2, d2, T2, y, p, b, hop, hev, hb, htag, hr2, _⟩ := (ht v1 p1 z1 0 hC1 hp1).inv_store ko ho
      rw [hop0] at hop
      cases hop
      rw [evo' a _ _ (by simp [hop0, Op.operands])] at hev hev0
      rw [hev0] at hev
      simp only [Value.pointer.injEq, Option.some.injEq, Addr.mk.injEq, and_true] at hev
      subst hev
      rw [Bx.set_ne _ (Ne.symm hne1)] at hb
      rw [wo] at w2
      rw [eo, evo' a _ _ (by simp [hop0, Op.operands])] at hr2
      refine .store ho ko w2 hd2 hop0 hev0 hb htag hr2 ?_
      refine .cbox hx kx w1 hd hrun hsp fun u p2 z T hC hp2 => ?_
      obtain ⟨hne, hp2'⟩ := Bx.set_none hp2
      obtain ⟨_, _, d', T', y', p', b', hop', hev', hb', htag', hr', ht'⟩ := (ht u p2 z T hC hp2').inv_store ko ho
      rw [hop0] at hop'
      cases hop'
      rw [evo' a _ _ (by simp [hop0, Op.operands]), hev0] at hev'
      simp only [Value.pointer.injEq, Option.some.injEq, Addr.mk.injEq, and_true] at hev'
      subst hev'
      rw [Bx.set_ne _ (Ne.symm hne), hb] at hb'
      cases hb'
      rw [evo' a _ _ (by simp [hop0, Op.operands])] at ht'
      rw [Bx.set_comm _ (Ne.symm hne)]
      exact ht'
    · rw [kx, ko] at hk
      simp [kindsOk] at hk
    · rw [kx, ko] at hk
      simp [kindsOk] at hk
end swap

/-- One that may change places with all that stand ahead of it stands first. -/
theorem TD.front (hsel : ∀ (j : Nat) (p : Oper) cs b, ops[j]? = some p → p.op ≠ .select cs b) (hQ : ∀ c a d v w, Q (.panic c) (Act.put a d v) w → Q (.panic c) a w)
    (hS : S w0) (hSt : ∀ w', Mod (fun _ => False) w0 w' → S w') {o : Nat} {oo : Oper} (ho : ops[o]? = some oo) {post : List Nat} : ∀ (pre : List Nat) (a : Act) (B : Bx), B.Fin →
      (∀ x ∈ pre, ∃ ox, ops[x]? = some ox ∧ ox.apart ops oo = true ∧ kindsOk (κ x) (κ o) ox oo = true) →
      TD P ops Q S C w0 κ (pre ++ o :: post) a B → TD P ops Q S C w0 κ (o :: (pre ++ post)) a B
  | [], _, _, _, _, h => h
  | x :: pre, a, B, hB, hp, h => by
    obtain ⟨ox, hx, hap, hk⟩ := hp x (by simp)
    have hp' : ∀ y ∈ pre, ∃ oy, ops[y]? = some oy ∧ oy.apart ops oo = true ∧ kindsOk (κ y) (κ o) oy oo = true := fun y hy => hp y (List.mem_cons_of_mem _ hy)
    refine TD.swap hsel hQ hS hSt hB hx ho hap hk ?_
    rcases h.kinds with kx | kx | kx | kx | kx
    · obtain ⟨h1, h2⟩ := h.inv_neu kx hx
      exact .neu hx kx h1 fun v hv => TD.front hsel hQ hS hSt ho pre _ _ hB hp' (h2 v hv)
    · obtain ⟨w1, d, T, z, V, hd, hr, ht⟩ := h.inv_alloc kx hx
      exact .alloc V hx kx w1 hd hr fun p hpn => TD.front hsel hQ hS hSt ho pre _ _ (hB.set _ _) hp' (ht p hpn)
    · obtain ⟨w1, hd, d, T, y, p, b, hop, hev, hb, htag, hr, ht⟩ := h.inv_store kx hx
      exact .store hx kx w1 hd hop hev hb htag hr (TD.front hsel hQ hS hSt ho pre _ _ (hB.set _ _) hp' ht)
    · rw [kx] at hk
      unfold kindsOk at hk
      split at hk <;> simp_all
    · obtain ⟨w1, d, f, args, hd, hrun, hsp, ht⟩ := h.inv_cbox kx hx
      exact .cbox hx kx w1 hd hrun hsp fun v p z T hC hpn => TD.front hsel hQ hS hSt ho pre _ _ (hB.set _ _) hp' (ht v p z T hC hpn)

theorem TE.front (hsel : ∀ (j : Nat) (p : Oper) cs b, ops[j]? = some p → p.op ≠ .select cs b)
    {o : Nat} {oo : Oper} (ho : ops[o]? = some oo) {post : List Nat} {w : World} : ∀ (pre : List Nat) (a : Act),
      (∀ x ∈ pre, ∃ ox, ops[x]? = some ox ∧ ox.apart ops oo = true ∧ κ x ≠ 6 ∧ κ o ≠ 6) →
      TE P ops Q κ (pre ++ o :: post) a w → TE P ops Q κ (o :: (pre ++ post)) a w
  | [], _, _, h => h
  | x :: pre, a, hp, h => by
    obtain ⟨ox, hx, hap, k1, k2⟩ := hp x (by simp)
    obtain ⟨h1, h2, h3⟩ := Oper.apart_spec hap
    have hp' : ∀ y ∈ pre, ∃ oy, ops[y]? = some oy ∧ oy.apart ops oo = true ∧ κ y ≠ 6 ∧ κ o ≠ 6 := fun y hy => hp y (List.mem_cons_of_mem _ hy)
    cases h with
    | eff R _ hk => exact absurd hk k1
    | val hx' hy ht =>
      rw [hx] at hx'; cases hx'
      rename_i v
      have hf := TE.front hsel ho pre _ hp' ht
      cases hf with
      | eff R _ hk => exact absurd hk k2
      | val ho' hy2 ht2 =>
        rw [ho] at ho'; cases ho'
        rename_i u
        have eo := execOp_put (ops := ops) oo (fun cs b => hsel o oo cs b ho) a ox.dst v h1
        have wo := wanted_put (ops := ops) oo a ox.dst v h1
        have ex := execOp_put (ops := ops) ox (fun cs b => hsel x ox cs b hx) a oo.dst u h3
        have wx := wanted_put (ops := ops) ox a oo.dst u h3
        refine .val ho (hy2.of_same eo.symm wo.symm) (.val hx (hy.of_same ex wx) ?_)
        rw [← Act.put_comm a v u h2]
        exact ht2

/-! ### 3. Any order that the edges allow -/
def pathB (ops : Array Oper) : Nat → Nat → Nat → Bool
  | 0, _, _ => false
  | n + 1, j, i => match ops[i]? with
    | none => false
    | some o => o.after.any fun e => Region.binds .any e && (e.on == j || pathB ops n j e.on)
/-- What lies behind x, as bits: one sweep over the operations. -/
def sweep (x : Nat) : List Oper → Nat → Nat → Nat
  | [], _, S => S
  | o :: r, i, S => match (if o.after.toList.any fun e => Region.binds .any e && S.testBit e.on then S ||| 2 ^ i else S) with
    | 0 => sweep x r (i + 1) 0
    | n + 1 => sweep x r (i + 1) (n + 1)
theorem sweep_path {ops : Array Oper} (x : Nat) : ∀ (r : List Oper) (i S : Nat), (∀ k o, r[k]? = some o → ops[i + k]? = some o) → (∀ j, S.testBit j = true → j = x ∨ ∃ n, pathB ops n x j = true) →
    ∀ j, (sweep x r i S).testBit j = true → j = x ∨ ∃ n, pathB ops n x j = true
  | [], _, _, _, hS, j, h => hS j h
  | o :: r, i, S, hr, hS, j, h => by
    have ho : ops[i]? = some o := hr 0 o rfl
    have hr' : ∀ k o', r[k]? = some o' → ops[i + 1 + k]? = some o' := fun k o' hk => by
      rw [show i + 1 + k = i + (k + 1) by omega]
      exact hr (k + 1) o' hk
    have key : ∀ T, T = (if o.after.toList.any fun e => Region.binds .any e && S.testBit e.on then S ||| 2 ^ i else S) → ∀ j, T.testBit j = true → j = x ∨ ∃ n, pathB ops n x j = true := by
      rintro T rfl j hj
      split at hj
      · rename_i hany
        rw [Nat.testBit_or, Nat.testBit_two_pow, Bool.or_eq_true] at hj
        rcases hj with hj | hj
        · exact hS j hj
        · have hij : i = j := by simpa using hj
          subst hij
          rw [List.any_eq_true] at hany
          obtain ⟨e, he, hb⟩ := hany
          rw [Bool.and_eq_true] at hb
          right
          have hpa : ∀ n, (e.on = x ∨ pathB ops n x e.on = true) → pathB ops (n + 1) x i = true := fun n hh => by
            unfold pathB
            rw [ho]
            refine Array.any_eq_true'.2 ⟨e, by simpa using he, ?_⟩
            simp only [Bool.and_eq_true, Bool.or_eq_true, beq_iff_eq]
            exact ⟨hb.1, hh⟩
          rcases hS _ hb.2 with h1 | ⟨n, h1⟩
          · exact ⟨1, hpa 0 (.inl h1)⟩
          · exact ⟨n + 1, hpa n (.inr h1)⟩
      · exact hS j hj
    unfold sweep at h
    split at h
    · rename_i h0
      exact sweep_path x r (i + 1) 0 hr' (key 0 h0.symm) j h
    · rename_i n h0
      exact sweep_path x r (i + 1) (n + 1) hr' (key (n + 1) h0.symm) j h
def behindB (ops : Array Oper) (x : Nat) : Nat := sweep x ops.toList 0 (2 ^ x)
theorem behindB_path {ops : Array Oper} {x o : Nat} (h : (behindB ops x).testBit o = true) : o = x ∨ ∃ n, pathB ops n x o = true :=
  sweep_path x ops.toList 0 (2 ^ x) (fun k o hk => by simpa using hk) (fun j hj => by
    rw [Nat.testBit_two_pow] at hj
    exact .inl (by simpa using Eq.symm (by simpa using hj))) o h
def pairOk (ops : Array Oper) (κ : Nat → Nat) (x o : Nat) : Bool :=
  (!(x == o) && (behindB ops x).testBit o) || match ops[x]?, ops[o]? with
    | some ox, some oo => ox.apart ops oo && kindsOk (κ x) (κ o) ox oo
    | _, _ => false
def pairsOk (ops : Array Oper) (κ : Nat → Nat) : List Nat → Bool
  | [] => true
  | x :: r => r.all (fun o => pairOk ops κ x o) && pairsOk ops κ r
/-- The look that is taken once a region: no select; each edge leads back; the order names each operation once. -/
def regOk (ops : Array Oper) (κ : Nat → Nat) (l : List Nat) : Bool :=
  Region.noSelect ops && ((List.range ops.size).all fun i => match ops[i]? with | none => false | some o => o.after.all fun e => !Region.binds .any e || decide (e.on < i)) &&
  (decide (l.length = ops.size) && (l.all (fun i => decide (i < ops.size)) && ((List.range ops.size).all fun i => l.contains i))) && (decide l.Nodup && pairsOk ops κ l)

structure Listing (ops : Array Oper) (listed : Array Bool) (l : List Nat) : Prop where
  size : listed.size = ops.size
  mem : ∀ i, i ∈ l ↔ listed.getD i true = false
  closed : ∀ i o, listed.getD i false = true → ops[i]? = some o → ∀ e ∈ o.after, Region.binds .any e = true → listed.getD e.on false = true

theorem path_listed {listed : Array Bool} (hc : ∀ i o, listed.getD i false = true → ops[i]? = some o → ∀ e ∈ o.after, Region.binds .any e = true → listed.getD e.on false = true) :
    ∀ (n j i : Nat) (o : Oper), ops[i]? = some o → (∀ e ∈ o.after, Region.binds .any e = true → listed.getD e.on false = true) → pathB ops n j i = true → listed.getD j false = true
  | 0, _, _, _, _, _, h => by cases h
  | n + 1, j, i, o, ho, hr, h => by
    unfold pathB at h
    rw [ho] at h
    obtain ⟨e, he, hb⟩ := Array.any_eq_true'.1 h
    simp only [Bool.and_eq_true, Bool.or_eq_true, beq_iff_eq] at hb
    have hl := hr e he hb.1
    rcases hb.2 with h1 | h1
    · rw [← h1]; exact hl
    · cases h2 : ops[e.on]? with
      | none =>
        unfold pathB at h1
        cases n <;> simp [h2] at h1
      | some o2 => exact path_listed hc n j e.on o2 h2 (hc e.on o2 hl h2) h1

theorem getD_false_of_true {listed : Array Bool} {i : Nat} (h : listed.getD i true = false) : listed.getD i false = false := by
  rcases Nat.lt_or_ge i listed.size with h' | h'
  · simp [h'] at h ⊢; exact h
  · simp [Array.getElem?_eq_none h'] at h

theorem Listing.next {listed : Array Bool} {pre post : List Nat} {i : Nat} (h : Listing ops listed (pre ++ i :: post)) (hn : (pre ++ i :: post).Nodup) {o : Oper} (ho : ops[i]? = some o)
    (hr : ∀ e ∈ o.after, Region.binds .any e = true → listed.getD e.on false = true) : Listing ops (listed.setIfInBounds i true) (pre ++ post) where
  size := by simp [h.size]
  mem j := by
    have hi : listed.getD i true = false := (h.mem i).1 (by simp)
    have hlt : i < listed.size := by
      rcases Nat.lt_or_ge i listed.size with h' | h'
      · exact h'
      · simp [Array.getElem?_eq_none h'] at hi
    by_cases hj : i = j
    · subst hj
      constructor
      · intro hm
        exfalso
        rw [List.nodup_append] at hn
        obtain ⟨h1, h2, h3⟩ := hn
        rcases List.mem_append.1 hm with hm | hm
        · exact h3 i hm i (by simp) rfl
        · exact (List.nodup_cons.1 h2).1 hm
      · intro hm
        simp [hlt] at hm
    · rw [getD_set_ne true hj, ← h.mem j]
      simp only [List.mem_append, List.mem_cons]
      constructor
      · rintro (h | h)
        · exact .inl h
        · exact .inr (.inr h)
      · rintro (h | rfl | h)
        · exact .inl h
        · exact absurd rfl hj
        · exact .inr h
  closed j p hj hp e he hb := by
    by_cases hij : i = j
    · subst hij
      rw [ho] at hp
      cases hp
      exact getD_set_true (hr e he hb)
    · rw [getD_set_ne false hij] at hj
      exact getD_set_true (h.closed j p hj hp e he hb)

theorem pairsOk_split {κ : Nat → Nat} {i : Nat} {post : List Nat} : ∀ {pre : List Nat}, pairsOk ops κ (pre ++ i :: post) = true → (∀ x ∈ pre, pairOk ops κ x i = true) ∧ pairsOk ops κ (pre ++ post) = true
  | [], h => by
    simp only [List.nil_append, pairsOk, Bool.and_eq_true] at h
    exact ⟨fun _ hx => (List.not_mem_nil hx).elim, h.2⟩
  | x :: pre, h => by
    simp only [List.cons_append, pairsOk, Bool.and_eq_true, List.all_eq_true] at h
    obtain ⟨h1, h2⟩ := pairsOk_split h.2
    refine ⟨fun y hy => ?_, ?_⟩
    · rcases List.mem_cons.1 hy with rfl | hy
      · exact h.1 i (by simp)
      · exact h1 y hy
    · simp only [List.cons_append, pairsOk, Bool.and_eq_true, List.all_eq_true]
      refine ⟨fun y hy => h.1 y ?_, h2⟩
      rcases List.mem_append.1 hy with hy | hy
      · exact List.mem_append_left _ hy
      · exact List.mem_append_right _ (List.mem_cons_of_mem _ hy)

/-- Of those that are left one may come up. -/
theorem exists_ready (hback : ∀ i o, ops[i]? = some o → ∀ e ∈ o.after, Region.binds .any e = true → e.on < i) {listed : Array Bool} {l : List Nat} (h : Listing ops listed l)
    (hlt : ∀ i ∈ l, i < ops.size) : ∀ n, ∀ i ∈ l, i ≤ n → Region.ready .any ops listed ≠ []
  | n, i, hi, hin => by
    have hio : ops[i]? = some (ops[i]'(hlt i hi)) := Array.getElem?_eq_getElem (hlt i hi)
    by_cases hall : ∀ e ∈ (ops[i]'(hlt i hi)).after, Region.binds .any e = true → listed.getD e.on false = true
    · intro hnil
      have : i ∈ Region.ready .any ops listed := mem_ready.2 ⟨(h.mem i).1 hi, _, hio, hall⟩
      rw [hnil] at this
      cases this
    · have : ∃ e ∈ (ops[i]'(hlt i hi)).after, Region.binds .any e = true ∧ listed.getD e.on false = false := by
        rcases Classical.em (∃ e ∈ (ops[i]'(hlt i hi)).after, Region.binds .any e = true ∧ listed.getD e.on false = false) with hh | hh
        · exact hh
        · exfalso
          apply hall
          intro e he hb
          cases hc : listed.getD e.on false with
          | true => rfl
          | false => exact absurd ⟨e, he, hb, hc⟩ hh
      obtain ⟨e, he, hb, hf⟩ := this
      have hlt' := hback i _ hio e he hb
      have hin' : e.on ∈ l := by
        rw [h.mem]
        have hsz : e.on < listed.size := by rw [h.size]; have := hlt i hi; omega
        simp [hsz] at hf ⊢
        exact hf
      match n with
      | 0 => omega
      | n + 1 => exact exists_ready hback h hlt n e.on hin' (by omega)

theorem TE.sound (hsel : ∀ (j : Nat) (p : Oper) cs b, ops[j]? = some p → p.op ≠ .select cs b)
    (hback : ∀ i o, ops[i]? = some o → ∀ e ∈ o.after, Region.binds .any e = true → e.on < i) :
    ∀ (fuel : Nat) (l : List Nat) (listed : Array Bool) (a : Act) (w : World), l.length = fuel → l.Nodup → (∀ i ∈ l, i < ops.size) → pairsOk ops κ l = true → Listing ops listed l → TE P ops Q κ l a w → wpAny P .any ops Q fuel listed a w := by
  intro fuel
  induction fuel with
  | zero =>
    intro l listed a w hl hn hlt hp hL h
    obtain rfl : l = [] := List.length_eq_zero_iff.1 hl
    refine ⟨?_, ?_⟩
    · rw [List.eq_nil_iff_forall_not_mem]
      intro i hi
      have := (hL.mem i).2 (mem_ready.1 hi).1
      cases this
    · cases h with | nil h => exact h
  | succ fuel ih =>
    intro l listed a w hl hn hlt hp hL h
    refine ⟨fun hnil => ?_, fun i hi => ?_⟩
    · exfalso
      match l, hl with
      | i :: l', _ => exact exists_ready hback hL hlt i i (by simp) (Nat.le_refl _) hnil
    · obtain ⟨hun, o, ho, hall⟩ := mem_ready.1 hi
      obtain ⟨pre, post, rfl⟩ := List.append_of_mem ((hL.mem i).2 hun)
      obtain ⟨h1, h2⟩ := pairsOk_split hp
      have hf := TE.front hsel ho pre a (fun x hx => by
        have := h1 x hx
        unfold pairOk at this
        have hxo : ops[x]? = some (ops[x]'(hlt x (by simp [hx]))) := Array.getElem?_eq_getElem _
        rw [hxo, ho] at this
        simp only [Bool.or_eq_true, Bool.and_eq_true] at this
        rcases this with hpth | hok
        · obtain ⟨_, hpth⟩ := (behindB_path hpth.2).resolve_left (fun e => by have := hpth.1; simp [e] at this)
          have hl1 := path_listed hL.closed _ x i o ho hall hpth
          have hl2 := getD_false_of_true ((hL.mem x).1 (by simp [hx]))
          rw [hl1] at hl2
          cases hl2
        · refine ⟨_, hxo, hok.1, fun e => ?_, fun e => ?_⟩
          · have := hok.2
            rw [e] at this
            unfold kindsOk at this
            split at this <;> simp_all
          · have := hok.2
            rw [e] at this
            unfold kindsOk at this
            split at this <;> simp_all) h
      have hl' : (pre ++ post).length = fuel := by simp at hl ⊢; omega
      have hn' : (pre ++ post).Nodup := hn.sublist (List.Sublist.append_left (List.sublist_cons_self _ _) _)
      have hlt' : ∀ j ∈ pre ++ post, j < ops.size := fun j hj => hlt j (by
        rcases List.mem_append.1 hj with hj | hj
        · exact List.mem_append_left _ hj
        · exact List.mem_append_right _ (List.mem_cons_of_mem _ hj))
      cases hf with
      | val ho' hy ht =>
        rw [ho] at ho'
        cases ho'
        exact YieldsIf.wpOp ho hy trivial (ih (pre ++ post) _ _ _ hl' hn' hlt' h2 (hL.next hn ho hall) ht)
      | eff R ho' hk hR hT => exact wpOp_mono (fun a' w' hh => ih (pre ++ post) _ _ _ hl' hn' hlt' h2 (hL.next hn ho hall) (hT a' w' hh)) hR

theorem TD.sound (hsel : ∀ (j : Nat) (p : Oper) cs b, ops[j]? = some p → p.op ≠ .select cs b) (hQ : ∀ c a d v w, Q (.panic c) (Act.put a d v) w → Q (.panic c) a w)
    (hback : ∀ i o, ops[i]? = some o → ∀ e ∈ o.after, Region.binds .any e = true → e.on < i) (hS : S w0) (hSt : ∀ w, Mod (fun _ => False) w0 w → S w) :
    ∀ (fuel : Nat) (l : List Nat) (listed : Array Bool) (a : Act) (B : Bx) (w : World), l.length = fuel → l.Nodup → (∀ i ∈ l, i < ops.size) → pairsOk ops κ l = true → Listing ops listed l → B.Fin →
      Rel w0 B w → TD P ops Q S C w0 κ l a B → wpAny P .any ops Q fuel listed a w := by
  intro fuel
  induction fuel with
  | zero =>
    intro l listed a B w hl hn hlt hp hL hB hR h
    obtain rfl : l = [] := List.length_eq_zero_iff.1 hl
    refine ⟨?_, ?_⟩
    · rw [List.eq_nil_iff_forall_not_mem]
      intro i hi
      have := (hL.mem i).2 (mem_ready.1 hi).1
      cases this
    · cases h with | nil h => exact h w hR
  | succ fuel ih =>
    intro l listed a B w hl hn hlt hp hL hB hR h
    refine ⟨fun hnil => ?_, fun i hi => ?_⟩
    · exfalso
      match l, hl with
      | i :: l', _ => exact exists_ready hback hL hlt i i (by simp) (Nat.le_refl _) hnil
    · obtain ⟨hun, o, ho, hall⟩ := mem_ready.1 hi
      obtain ⟨pre, post, rfl⟩ := List.append_of_mem ((hL.mem i).2 hun)
      obtain ⟨h1, h2⟩ := pairsOk_split hp
      have hf := TD.front hsel hQ hS hSt ho pre a B hB (fun x hx => by
        have := h1 x hx
        unfold pairOk at this
        have hxo : ops[x]? = some (ops[x]'(hlt x (by simp [hx]))) := Array.getElem?_eq_getElem _
        rw [hxo, ho] at this
        simp only [Bool.or_eq_true, Bool.and_eq_true] at this
        rcases this with hpth | hok
        · obtain ⟨_, hpth⟩ := (behindB_path hpth.2).resolve_left (fun e => by have := hpth.1; simp [e] at this)
          have hl1 := path_listed hL.closed _ x i o ho hall hpth
          have hl2 := getD_false_of_true ((hL.mem x).1 (by simp [hx]))
          rw [hl1] at hl2
          cases hl2
        · exact ⟨_, hxo, hok.1, hok.2⟩) h
      have hl' : (pre ++ post).length = fuel := by simp at hl ⊢; omega
      have hn' : (pre ++ post).Nodup := hn.sublist (List.Sublist.append_left (List.sublist_cons_self _ _) _)
      have hlt' : ∀ j ∈ pre ++ post, j < ops.size := fun j hj => hlt j (by
        rcases List.mem_append.1 hj with hj | hj
        · exact List.mem_append_left _ hj
        · exact List.mem_append_right _ (List.mem_cons_of_mem _ hj))
      have hL' := hL.next hn ho hall
      rcases hf.kinds with ko | ko | ko | ko | ko
      · obtain ⟨hpre, ht⟩ := hf.inv_neu ko ho
        rcases hpre with ⟨hk, v, hy⟩ | ⟨hk, v, hy⟩ | ⟨hk, f, args, hw, hrun, hsp⟩
        · exact YieldsIf.wpOp ho hy trivial (ih _ _ _ _ _ hl' hn' hlt' h2 hL' hB hR (ht v (.inl ⟨hk, hy⟩)))
        · exact YieldsIf.wpOp ho hy (hSt w hR.mod) (ih _ _ _ _ _ hl' hn' hlt' h2 hL' hB hR (ht v (.inr (.inl ⟨hk, hy⟩))))
        · unfold wpOp
          simp only [ho, hw, if_true]
          refine .inl ?_
          unfold Oper.wp
          rw [hrun w]
          refine (hsp w (hSt w hR.mod)).mono ?_
          rintro e w' ⟨v, rfl, hv, hm⟩
          exact ih _ _ _ _ _ hl' hn' hlt' h2 hL' hB (hR.mods hm) (ht v (.inr (.inr ⟨hk, f, args, hw, hrun, hsp, hv⟩)))
      · obtain ⟨hw, d, T, z, V, hd, hr, ht⟩ := hf.inv_alloc ko ho
        unfold wpOp
        simp only [ho, hw, if_true]
        refine .inl ?_
        unfold Oper.wp
        rw [hr w]
        exact ih _ _ _ _ _ hl' hn' hlt' h2 hL' (hB.set _ _) (hR.alloc z T d) (ht _ hR.none)
      · obtain ⟨hw, hd, d, T, y, p, b, hop, hev, hb, htag, hr, ht⟩ := hf.inv_store ko ho
        unfold wpOp
        simp only [ho, hw, if_true]
        refine .inl ?_
        unfold Oper.wp
        rw [hr w (hR.box p b hb).2]
        simp only [Oper.upon, hd]
        exact ih _ _ _ _ _ hl' hn' hlt' h2 hL' (hB.set _ _) (hR.store hb _) ht
      · have hE := hf.inv_eff ko w hR
        refine wpOp_mono (fun a' w' hh => ?_) hE
        exact TE.sound hsel hback fuel _ _ _ _ hl' hn' hlt' h2 hL' hh
      · obtain ⟨hw, d, f, args, hd, hrun, hsp, ht⟩ := hf.inv_cbox ko ho
        unfold wpOp
        simp only [ho, hw, if_true]
        refine .inl ?_
        unfold Oper.wp
        rw [hrun w]
        refine (hsp w (hSt w hR.mod)).mono ?_
        rintro e w' ⟨v, p, z, T, rfl, hC, hp, hkp, hm⟩
        exact ih _ _ _ _ _ hl' hn' hlt' h2 hL' (hB.set _ _) (hR.cbox hm d hp hkp) (ht v p z T hC (hR.free hp))

theorem any_of_pass {a : Act} {w w1 : World} (l : List Nat) (hok : regOk ops κ l = true)
    (hQ : ∀ c a d v w, Q (.panic c) (Act.put a d v) w → Q (.panic c) a w) (hSt : ∀ w', Mod (fun _ => False) w w' → S w') (hR : Rel w Bx.nil w1)
    (h : TD P ops Q S C w κ l a Bx.nil) : wpAny P .any ops Q ops.size (Array.replicate ops.size false) a w1 := by
  simp only [regOk, Bool.and_eq_true, List.all_eq_true, decide_eq_true_eq] at hok
  obtain ⟨⟨⟨h1, h2⟩, h3, h4, h5⟩, hnd, h6⟩ := hok
  have hback : ∀ i o, ops[i]? = some o → ∀ e ∈ o.after, Region.binds .any e = true → e.on < i := fun i o ho e he hb => by
    have := h2 i (List.mem_range.2 (Array.getElem?_eq_some_iff.1 ho).1)
    rw [ho] at this
    have := Array.all_eq_true_iff_forall_mem.1 this e he
    simpa [hb] using this
  refine TD.sound (Region.noSelect_spec h1) hQ hback (hSt w (Mod.refl _ _)) hSt _ l _ a _ _ h3 hnd h4 h6 ?_ Bx.nil_fin hR h
  refine ⟨by simp, fun i => ?_, fun i o hi => ?_⟩
  · constructor
    · intro hi
      have := h4 i hi
      simp [this]
    · intro hi
      have : i < ops.size := by
        rcases Nat.lt_or_ge i ops.size with h' | h'
        · exact h'
        · simp [Nat.not_lt.2 h'] at hi
      simpa using h5 i (List.mem_range.2 this)
  · exfalso
    have : (Array.replicate ops.size false).getD i false = false := by
      by_cases h' : i < ops.size
      · simp [h']
      · simp [h']
    rw [this] at hi
    cases hi

/-- **A REGION BY ONE PASS**, one that draws its order; one that does not. -/
theorem wp_region_pass {id : Nat} {a : Act} {w : World} (l : List Nat) (hm : P.follows .mixedOrders = true) (hok : regOk ops κ l = true)
    (hQ : ∀ c a d v w, Q (.panic c) (Act.put a d v) w → Q (.panic c) a w) (hSt : ∀ w', Mod (fun _ => False) w w' → S w')
    (h : TD P ops Q S C w κ l a Bx.nil) : (Code.region id ops true).wp P Q a w :=
  wp_region_any hm (any_of_pass l hok hQ hSt ⟨(Mod.refl _ w).drew, fun _ _ hh => by cases hh⟩ h)
theorem wp_region_pass0 {id : Nat} {a : Act} {w : World} (l : List Nat) (hlin : Region.linearise .any ops 0 = List.range ops.size) (hok : regOk ops κ l = true)
    (hQ : ∀ c a d v w, Q (.panic c) (Act.put a d v) w → Q (.panic c) a w) (hSt : ∀ w', Mod (fun _ => False) w w' → S w')
    (h : TD P ops Q S C w κ l a Bx.nil) : (Code.region id ops false).wp P Q a w := by
  refine wp_region ?_
  rw [← hlin]
  exact wpAny_sound ops.size 0 _ a w (any_of_pass l hok hQ hSt (Rel.start w) h)

/-- The same, what is read being told by the frame alone. -/
theorem wp_pass {C : FuncId → Array Value → Value → Prop} {κ : Nat → Nat} {id : Nat} {a : Act} {w : World} (l : List Nat) (hm : P.follows .mixedOrders = true) (hok : regOk ops κ l = true)
    (hQ : ∀ c a d v w, Q (.panic c) (Act.put a d v) w → Q (.panic c) a w)
    (h : TD P ops Q (Mod (fun _ => False) w) C w κ l a Bx.nil) : (Code.region id ops true).wp P Q a w := wp_region_pass l hm hok hQ (fun _ h => h) h
theorem wp_pass0 {C : FuncId → Array Value → Value → Prop} {κ : Nat → Nat} {id : Nat} {a : Act} {w : World} (l : List Nat) (hlin : Region.linearise .any ops 0 = List.range ops.size) (hok : regOk ops κ l = true)
    (hQ : ∀ c a d v w, Q (.panic c) (Act.put a d v) w → Q (.panic c) a w)
    (h : TD P ops Q (Mod (fun _ => False) w) C w κ l a Bx.nil) : (Code.region id ops false).wp P Q a w := wp_region_pass0 l hlin hok hQ (fun _ h => h) h

/-! ### 4. The steps of a pass -/
theorem TD.val0 {i : Nat} {r : List Nat} {a : Act} {B : Bx} {o : Oper} {v : Value} (ho : ops[i]? = some o) (hk : κ i = 0) (hw : Region.wanted o (yielded ops a.tmps) = true)
    (hy : ∀ w, (execOp a.eval o).run P w = .ok (.value v) w) (h : TD P ops Q S C w0 κ r (a.put o.dst v) B) : TD P ops Q S C w0 κ (i :: r) a B := by
  refine .neu ho (by omega) (.inl ⟨hk, v, .inl ⟨hw, fun w _ => hy w⟩⟩) fun u hu => ?_
  rcases hu with ⟨_, hu⟩ | ⟨hk', _⟩ | ⟨hk', _⟩
  · rcases hu with ⟨_, hu⟩ | ⟨hw', _⟩
    · have := (hy w0).symm.trans (hu w0 trivial)
      simp only [Result.ok.injEq, Next.value.injEq, and_true] at this
      subst this
      exact h
    · rw [hw] at hw'; cases hw'
  · omega
  · omega
theorem TD.val1 {i : Nat} {r : List Nat} {a : Act} {B : Bx} {o : Oper} {v : Value} (hS : S w0) (ho : ops[i]? = some o) (hk : κ i = 1) (hw : Region.wanted o (yielded ops a.tmps) = true)
    (hy : ∀ w, S w → (execOp a.eval o).run P w = .ok (.value v) w) (h : TD P ops Q S C w0 κ r (a.put o.dst v) B) : TD P ops Q S C w0 κ (i :: r) a B := by
  refine .neu ho (by omega) (.inr (.inl ⟨hk, v, .inl ⟨hw, fun w hs => hy w hs⟩⟩)) fun u hu => ?_
  rcases hu with ⟨hk', _⟩ | ⟨_, hu⟩ | ⟨hk', _⟩
  · omega
  · rcases hu with ⟨_, hu⟩ | ⟨hw', _⟩
    · have := (hy w0 hS).symm.trans (hu w0 hS)
      simp only [Result.ok.injEq, Next.value.injEq, and_true] at this
      subst this
      exact h
    · rw [hw] at hw'; cases hw'
  · omega
/-- One that its guard passes over. -/
theorem TD.pass {i : Nat} {r : List Nat} {a : Act} {B : Bx} {o : Oper} (ho : ops[i]? = some o) (hk : κ i = 0) (hw : Region.wanted o (yielded ops a.tmps) = false)
    (h : TD P ops Q S C w0 κ r (a.put o.dst undef) B) : TD P ops Q S C w0 κ (i :: r) a B := by
  refine .neu ho (by omega) (.inl ⟨hk, undef, .inr ⟨hw, rfl⟩⟩) fun u hu => ?_
  rcases hu with ⟨_, hu⟩ | ⟨hk', _⟩ | ⟨hk', _⟩
  · rcases hu with ⟨hw', _⟩ | ⟨_, rfl⟩
    · rw [hw] at hw'; cases hw'
    · exact h
  · omega
  · omega
theorem TD.pass1 {i : Nat} {r : List Nat} {a : Act} {B : Bx} {o : Oper} (ho : ops[i]? = some o) (hk : κ i = 1) (hw : Region.wanted o (yielded ops a.tmps) = false)
    (h : TD P ops Q S C w0 κ r (a.put o.dst undef) B) : TD P ops Q S C w0 κ (i :: r) a B := by
  refine .neu ho (by omega) (.inr (.inl ⟨hk, undef, .inr ⟨hw, rfl⟩⟩)) fun u hu => ?_
  rcases hu with ⟨hk', _⟩ | ⟨_, hu⟩ | ⟨hk', _⟩
  · omega
  · rcases hu with ⟨hw', _⟩ | ⟨_, rfl⟩
    · rw [hw] at hw'; cases hw'
    · exact h
  · omega
/-- A call that only lays new blocks. -/
theorem TD.call {i : Nat} {r : List Nat} {a : Act} {B : Bx} {o : Oper} {f : FuncId} {args : Array Value} (hS : S w0) (ho : ops[i]? = some o) (hk : κ i = 2) (hw : Region.wanted o (yielded ops a.tmps) = true)
    (hy : ∀ w, (execOp a.eval o).run P w = .ok (.enter f args) w) (hsp : Spec P S C f args) (h : ∀ v, C f args v → TD P ops Q S C w0 κ r (a.put o.dst v) B) : TD P ops Q S C w0 κ (i :: r) a B := by
  refine .neu ho (by omega) (.inr (.inr ⟨hk, f, args, hw, hy, hsp⟩)) fun u hu => ?_
  rcases hu with ⟨hk', _⟩ | ⟨hk', _⟩ | ⟨_, f', args', _, hy', _, hu⟩
  · omega
  · omega
  · have := (hy w0).symm.trans (hy' w0)
    simp only [Result.ok.injEq, Next.enter.injEq, and_true] at this
    obtain ⟨rfl, rfl⟩ := this
    exact h u hu
theorem exec_load {ρ : Operand → Value} {o : Oper} {T : TypeId} {x : Operand} {p v : Value} {w : World} (ho : o.op = .load T x) (hx : ρ x = p)
    (hr : (Instr.loadAt T p).run P w = .ok v w) : (execOp ρ o).run P w = .ok (.value v) w := by
  subst hx
  simp [execOp, ho, hr]
theorem TD.load {i : Nat} {r : List Nat} {a : Act} {B : Bx} {o : Oper} {T : TypeId} {x : Operand} {p v : Value} (hS : S w0) (ho : ops[i]? = some o) (hk : κ i = 1) (hw : Region.wanted o (yielded ops a.tmps) = true)
    (hop : o.op = .load T x) (hx : a.eval x = p) (hy : ∀ w, S w → (Instr.loadAt T p).run P w = .ok v w) (h : TD P ops Q S C w0 κ r (a.put o.dst v) B) : TD P ops Q S C w0 κ (i :: r) a B :=
  TD.val1 hS ho hk hw (fun w hs => exec_load hop hx (hy w hs)) h
theorem TD.lookup {i : Nat} {r : List Nat} {a : Act} {B : Bx} {o : Oper} {T : TypeId} {x y : Operand} {ok : Bool} {p q v : Value} (hS : S w0) (ho : ops[i]? = some o) (hk : κ i = 1) (hw : Region.wanted o (yielded ops a.tmps) = true)
    (hop : o.op = .lookup T x y ok) (hx : a.eval x = p) (hy : a.eval y = q) (hr : ∀ w, S w → (Instr.lookup T p q ok).run P w = .ok v w) (h : TD P ops Q S C w0 κ r (a.put o.dst v) B) : TD P ops Q S C w0 κ (i :: r) a B :=
  TD.val1 hS ho hk hw (fun w hs => by subst hx; subst hy; simp [execOp, hop, hr w hs]) h
theorem TD.entry {i : Nat} {r : List Nat} {a : Act} {B : Bx} {o : Oper} {x : Operand} {p v : Value} (hS : S w0) (ho : ops[i]? = some o) (hk : κ i = 1) (hw : Region.wanted o (yielded ops a.tmps) = true)
    (hop : o.op = .entry x) (hx : a.eval x = p) (hr : ∀ w, S w → (Instr.entry p).run P w = .ok v w) (h : TD P ops Q S C w0 κ r (a.put o.dst v) B) : TD P ops Q S C w0 κ (i :: r) a B :=
  TD.val1 hS ho hk hw (fun w hs => by subst hx; simp [execOp, hop, hr w hs]) h
theorem TD.build {i : Nat} {r : List Nat} {a : Act} {B : Bx} {o : Oper} {T : TypeId} {parts : Array (Nat × Operand)} {ps : Array (Nat × Value)} {v : Value} (ho : ops[i]? = some o) (hk : κ i = 0) (hw : Region.wanted o (yielded ops a.tmps) = true)
    (hop : o.op = .build T parts) (hx : parts.map (fun (p : Nat × Operand) => (p.1, a.eval p.2)) = ps) (hr : ∀ w, (Instr.build T ps).run P w = .ok v w) (h : TD P ops Q S C w0 κ r (a.put o.dst v) B) : TD P ops Q S C w0 κ (i :: r) a B :=
  TD.val0 ho hk hw (fun w => by subst hx; simp [execOp, hop, hr w]) h
theorem TD.allocB {i : Nat} {r : List Nat} {a : Act} {B : Bx} {o : Oper} {d : Tmp} {T : TypeId} {z : Array Value} (ho : ops[i]? = some o) (hk : κ i = 3)
    (hw : Region.wanted o (yielded ops a.tmps) = true) (hd : o.dst = some d) (hop : o.op = .alloc T)
    (hr : ∀ w, (Instr.alloc T true (.tuple #[])).run P w = .ok (.pointer (some ⟨w.heap.size, 0, none⟩)) (w.alloc (.cells z T)))
    (h : ∀ p, B p = none → TD P ops Q S C w0 κ r (a.put o.dst (.pointer (some ⟨p, 0, none⟩))) (B.set p ⟨z, T, d⟩)) : TD P ops Q S C w0 κ (i :: r) a B :=
  .alloc (fun p => .pointer (some ⟨p, 0, none⟩)) ho hk hw hd (fun w => by simp [execOp, hop, hr w]) h
/-- A call that the model itself answers. -/
theorem TD.xcall {i : Nat} {r : List Nat} {a : Act} {B : Bx} {o : Oper} {f : FuncId} {args : Array Operand} {ts : Array TypeId} {vs : Array Value} {v : Value} (ho : ops[i]? = some o) (hk : κ i = 0) (hw : Region.wanted o (yielded ops a.tmps) = true)
    (hop : o.op = .call { callee := .value (.func f), args := args, argTypes := ts }) (hx : args.map a.eval = vs) (hr : ∀ w, (callFunc f vs).run P w = .ok (.value v) w) (h : TD P ops Q S C w0 κ r (a.put o.dst v) B) : TD P ops Q S C w0 κ (i :: r) a B :=
  TD.val0 ho hk hw (fun w => by
    subst hx
    have := hr w
    simp [execOp, hop, resolve, Deferred.ofValue, Act.eval, invoke, this]) h
theorem TD.slice {i : Nat} {r : List Nat} {a : Act} {B : Bx} {o : Oper} {T : TypeId} {s : Operand} {lo hi mx : Option Operand} {v w' : Value} {l' h' m' : Option Value} (ho : ops[i]? = some o) (hk : κ i = 0) (hw : Region.wanted o (yielded ops a.tmps) = true)
    (hop : o.op = .slice T s lo hi mx) (hs : a.eval s = v) (hl : lo.map a.eval = l') (hh : hi.map a.eval = h') (hm : mx.map a.eval = m') (hr : ∀ w, (Instr.sliceAt T v l' h' m').run P w = .ok w' w) (h : TD P ops Q S C w0 κ r (a.put o.dst w') B) : TD P ops Q S C w0 κ (i :: r) a B :=
  TD.val0 ho hk hw (fun w => by subst hs; subst hl; subst hh; subst hm; simp [execOp, hop, hr w]) h
/-- A slice literal. -/
theorem TD.bslice {i : Nat} {r : List Nat} {a : Act} {B : Bx} {o : Oper} {d : Tmp} {T E : TypeId} {n : Nat} {parts : Array (Nat × Operand)} {ps : Array (Nat × Value)} {z : Array Value} (ho : ops[i]? = some o) (hk : κ i = 3)
    (hw : Region.wanted o (yielded ops a.tmps) = true) (hd : o.dst = some d) (hop : o.op = .buildSlice T n parts) (hx : parts.map (fun (p : Nat × Operand) => (p.1, a.eval p.2)) = ps)
    (hr : ∀ w, (Instr.buildSlice T n ps).run P w = .ok (.slice (some ⟨w.heap.size, 0, none⟩) n n) (w.alloc (.cells z E)))
    (h : ∀ p, B p = none → TD P ops Q S C w0 κ r (a.put o.dst (.slice (some ⟨p, 0, none⟩) n n)) (B.set p ⟨z, E, d⟩)) : TD P ops Q S C w0 κ (i :: r) a B :=
  .alloc (fun p => .slice (some ⟨p, 0, none⟩) n n) ho hk hw hd (fun w => by subst hx; simp [execOp, hop, hr w]) h
/-- A value that is boxed. -/
theorem TD.box {i : Nat} {r : List Nat} {a : Act} {B : Bx} {o : Oper} {d : Tmp} {T : TypeId} {x : Operand} {v : Value} (ho : ops[i]? = some o) (hk : κ i = 3)
    (hw : Region.wanted o (yielded ops a.tmps) = true) (hd : o.dst = some d) (hop : o.op = .box T x) (hx : a.eval x = v)
    (h : ∀ p, B p = none → TD P ops Q S C w0 κ r (a.put o.dst (.pointer (some ⟨p, 0, none⟩))) (B.set p ⟨v.cells, T, d⟩)) : TD P ops Q S C w0 κ (i :: r) a B :=
  .alloc (fun p => .pointer (some ⟨p, 0, none⟩)) ho hk hw hd (fun w => by subst hx; simp [execOp, hop, Instr.box, newVar, newRow, newObj]; rfl) h
theorem TD.storeB {i : Nat} {r : List Nat} {a : Act} {B : Bx} {o : Oper} {d : Tmp} {T : TypeId} {y : Operand} {p : Nat} {b : LB} {v : Value} (ho : ops[i]? = some o) (hk : κ i = 4)
    (hw : Region.wanted o (yielded ops a.tmps) = true) (hd : o.dst = none) (hop : o.op = .store T (.tmp d) y) (hev : a.eval (.tmp d) = .pointer (some ⟨p, 0, none⟩)) (hyv : a.eval y = v) (hb : B p = some b) (htag : b.tag = d)
    (hr : ∀ w, w.heap[p]? = some (.cells b.cells b.ty (0, 0)) → (Instr.storeAt T (.pointer (some ⟨p, 0, none⟩)) v).run P w = .ok () (setBlock w p (.cells v.cells b.ty (0, 0))))
    (h : TD P ops Q S C w0 κ r a (B.set p { b with cells := v.cells })) : TD P ops Q S C w0 κ (i :: r) a B := by
  subst hyv
  exact .store ho hk hw hd hop hev hb htag (fun w hw => by simp [execOp, hop, hev, hr w hw]) h
/-- The effect: what its run comes to. -/
theorem eff_skip {i : Nat} {a : Act} {o : Oper} {K : Act → World → Prop} {w w' : World} (ho : ops[i]? = some o) (hw : Region.wanted o (yielded ops a.tmps) = true)
    (hr : (execOp a.eval o).run P w = .ok .skip w') (h : K (a.put o.dst undef) w') : wpOp P ops Q i K a w := by
  unfold wpOp
  simp only [ho, hw, if_true]
  refine .inl ?_
  unfold Oper.wp
  rw [hr]
  exact h
theorem eff_value {i : Nat} {a : Act} {o : Oper} {K : Act → World → Prop} {w w' : World} {v : Value} (ho : ops[i]? = some o) (hw : Region.wanted o (yielded ops a.tmps) = true)
    (hr : (execOp a.eval o).run P w = .ok (.value v) w') (h : K (a.put o.dst v) w') : wpOp P ops Q i K a w := by
  unfold wpOp
  simp only [ho, hw, if_true]
  refine .inl ?_
  unfold Oper.wp
  rw [hr]
  exact h
theorem eff_call {i : Nat} {a : Act} {o : Oper} {K : Act → World → Prop} {w w' : World} {f : FuncId} {args : Array Value} {R : Ending → World → Prop} (ho : ops[i]? = some o) (hw : Region.wanted o (yielded ops a.tmps) = true)
    (hr : (execOp a.eval o).run P w = .ok (.enter f args) w') (hc : Calls P f args w' R) (h : ∀ e w'', R e w'' → ∃ v, e = .returned v ∧ K (a.put o.dst v) w'') : wpOp P ops Q i K a w := by
  unfold wpOp
  simp only [ho, hw, if_true]
  refine .inl ?_
  unfold Oper.wp
  rw [hr]
  refine hc.mono fun e w'' he => ?_
  obtain ⟨v, rfl, hk⟩ := h e w'' he
  exact hk
theorem eff_update {i : Nat} {a : Act} {o : Oper} {K : Act → World → Prop} {w w' : World} {T : TypeId} {x y z : Operand} {X Y Z : Value} (ho : ops[i]? = some o) (hw : Region.wanted o (yielded ops a.tmps) = true)
    (hop : o.op = .mapUpdate T x y z) (hx : a.eval x = X) (hy : a.eval y = Y) (hz : a.eval z = Z) (hr : (Instr.mapUpdate T X Y Z).run P w = .ok () w') (h : K (a.put o.dst undef) w') : wpOp P ops Q i K a w :=
  eff_skip ho hw (by subst hx; subst hy; subst hz; simp [execOp, hop, hr]) h
theorem eff_delete {i : Nat} {a : Act} {o : Oper} {K : Act → World → Prop} {w w' : World} {T U : TypeId} {x y : Operand} {X Y v : Value} (ho : ops[i]? = some o) (hw : Region.wanted o (yielded ops a.tmps) = true)
    (hop : o.op = .call { callee := .builtin .delete, args := #[x, y], argTypes := #[T, U] }) (hx : a.eval x = X) (hy : a.eval y = Y) (hr : (Builtin.delete_ #[T, U] o.type #[X, Y]).run P w = .ok v w') (h : K (a.put o.dst v) w') : wpOp P ops Q i K a w :=
  eff_value ho hw (by subst hx; subst hy; simp [execOp, hop, resolve, invoke, builtin, hr]) h
theorem eff_store {i : Nat} {a : Act} {o : Oper} {K : Act → World → Prop} {w w' : World} {T : TypeId} {x y : Operand} {X Y : Value} (ho : ops[i]? = some o) (hw : Region.wanted o (yielded ops a.tmps) = true)
    (hop : o.op = .store T x y) (hx : a.eval x = X) (hy : a.eval y = Y) (hr : (Instr.storeAt T X Y).run P w = .ok () w') (h : K (a.put o.dst undef) w') : wpOp P ops Q i K a w :=
  eff_skip ho hw (by subst hx; subst hy; simp [execOp, hop, hr]) h
theorem eff_append {i : Nat} {a : Act} {o : Oper} {K : Act → World → Prop} {w w' : World} {t : TypeId} {s x : Operand} {v u v' : Value} (ho : ops[i]? = some o) (hw : Region.wanted o (yielded ops a.tmps) = true)
    (hop : o.op = .call { callee := .builtin .append, args := #[s, x], argTypes := #[t, t] }) (hs : a.eval s = v) (hx : a.eval x = u) (hr : (Builtin.append_ #[t, t] o.type #[v, u]).run P w = .ok v' w')
    (h : K (a.put o.dst v') w') : wpOp P ops Q i K a w :=
  eff_value ho hw (by subst hs; subst hx; simp [execOp, hop, resolve, invoke, builtin, hr]) h
/-- Behind the first effect one more, in its order. -/
theorem TE.step {i : Nat} {r : List Nat} {a : Act} {w : World} {o : Oper} (ho : ops[i]? = some o) (hk : κ i = 6) (h : wpOp P ops Q i (fun a' w' => TE P ops Q κ r a' w') a w) : TE P ops Q κ (i :: r) a w :=
  .eff _ ho hk h (fun _ _ h => h)
/-- Behind the effect, where one block has been written: the world by what is known of it. -/
theorem TE.nil_set {a : Act} {w : World} {p : Nat} {o o' : Obj} (hb : w.heap[p]? = some o) (h : ∀ w', w'.heap[p]? = some o' → Mod (fun i => i = p) w w' → Q .normal a w') : TE P ops Q κ [] a (setBlock w p o') :=
  .nil (h _ (heap_setBlock w _ (lt_size hb)) (mod_set w p o'))
theorem TE.val0 {i : Nat} {r : List Nat} {a : Act} {w : World} {o : Oper} {v : Value} (ho : ops[i]? = some o) (hw : Region.wanted o (yielded ops a.tmps) = true)
    (hy : ∀ w, (execOp a.eval o).run P w = .ok (.value v) w) (h : TE P ops Q κ r (a.put o.dst v) w) : TE P ops Q κ (i :: r) a w :=
  .val ho (.inl ⟨hw, fun w _ => hy w⟩) h

/-! ### 5. Blocks read and written -/
theorem run_load_row {w : World} {b o : Nat} {cs : Array Value} {U : TypeId} {fr : Nat × Nat} {T : TypeId} {d : TypeDesc} {n : Nat} (hb : w.heap[b]? = some (.cells cs U fr))
    (hu : P.underlying T = some d) (hd : d.isRow = true) (hi : (P.info? T).map (·.size) = some n) (hn : o + n ≤ cs.size) :
    (Instr.loadAt T (.pointer (some ⟨b, o, none⟩))).run P w = .ok (.agg (cs.extract o (o + n))) w := by
  have := run_loadAt_mid (P := P) w b o T (cs.extract o (o + n)).toList d (World.rangeAt_of_block hb o n) hu hd (by rw [hi]; simp; omega)
  rw [Array.toArray_toList] at this
  exact this
theorem cell_blk (w : World) (b o : Nat) : w.cell? ⟨b, o, none⟩ = match w.heap[b]? with | some (.cells c _ _) => c[o]? | _ => none := by
  simp only [World.cell?]
  cases w.heap[b]? with
  | none => rfl
  | some x => cases x <;> rfl
theorem frozen_blk (w : World) (b o : Nat) : w.frozen? ⟨b, o, none⟩ = match w.heap[b]? with | some (.cells _ _ (lo, hi)) => decide (lo ≤ o) && decide (o < hi) | _ => false := by
  simp only [World.frozen?]
  cases w.heap[b]? with
  | none => rfl
  | some x => cases x <;> rfl
theorem setCell_blk {w : World} {b o : Nat} {cs : Array Value} {U : TypeId} {fr : Nat × Nat} (hb : w.heap[b]? = some (.cells cs U fr)) (v : Value) :
    w.setCell ⟨b, o, none⟩ v = setBlock w b (.cells (cs.setIfInBounds o v) U fr) := by
  have hlt := lt_size hb
  simp only [World.setCell, setBlock]
  congr 1
  apply Array.ext_getElem?
  intro i
  rw [Array.getElem?_modify, Array.getElem?_setIfInBounds]
  by_cases hi : b = i
  · subst hi
    rw [hb]
    simp [hlt]
  · simp [hi]
theorem TE.nil_setCell {a : Act} {w : World} {p i : Nat} {cs : Array Value} {U : TypeId} {fr : Nat × Nat} {v : Value} (hb : w.heap[p]? = some (.cells cs U fr))
    (h : ∀ w', w'.heap[p]? = some (.cells (cs.setIfInBounds i v) U fr) → Mod (fun i => i = p) w w' → Q .normal a w') : TE P ops Q κ [] a (w.setCell ⟨p, i, none⟩ v) := by
  rw [setCell_blk hb]
  exact TE.nil_set hb h
theorem setBlock_same {w : World} {b : Nat} {o : Obj} (hb : w.heap[b]? = some o) : setBlock w b o = w := by
  have hlt := lt_size hb
  have : w.heap.setIfInBounds b o = w.heap := by
    apply Array.ext_getElem?
    intro i
    rw [Array.getElem?_setIfInBounds]
    by_cases hi : b = i
    · subst hi; rw [hb]; simp [hlt]
    · simp [hi]
  unfold setBlock
  rw [this]
theorem setBlock_setBlock (w : World) (b : Nat) (o o' : Obj) : setBlock (setBlock w b o) b o' = setBlock w b o' := by
  unfold setBlock
  simp
/-- Cells written one behind the other. -/
def wr (cs : Array Value) (o : Nat) : List Value → Array Value
  | [] => cs
  | v :: r => wr (cs.setIfInBounds o v) (o + 1) r
theorem wr_list : ∀ (vs : List Value) (cs : Array Value) (o : Nat), o + vs.length ≤ cs.size → (wr cs o vs).toList = cs.toList.take o ++ vs ++ cs.toList.drop (o + vs.length)
  | [], cs, o, _ => by simp [wr]
  | v :: r, cs, o, h => by
    simp only [List.length_cons] at h
    unfold wr
    rw [wr_list r _ (o + 1) (by simp; omega)]
    simp only [Array.toList_setIfInBounds, List.length_cons]
    have h1 : (cs.toList.set o v).take (o + 1) = cs.toList.take o ++ [v] := by
      rw [List.take_set, List.take_succ_eq_append_getElem (by simp; omega)]
      apply List.ext_getElem?
      intro i
      simp only [List.getElem?_set, List.getElem?_append, List.length_append, List.length_take, Array.length_toList, List.length_singleton]
      grind
    have h2 : (cs.toList.set o v).drop (o + 1 + r.length) = cs.toList.drop (o + (r.length + 1)) := by
      rw [List.drop_set_of_lt (by omega)]
      congr 1
      omega
    rw [h1, h2]
    simp
theorem wr_whole (vs : Array Value) (cs : Array Value) (h : vs.size = cs.size) : wr cs 0 vs.toList = vs := by
  apply Array.toList_inj.1
  rw [wr_list _ _ _ (by simp; omega)]
  simp [h]
theorem setCells_blk : ∀ (vs : List Value) (w : World) (b o : Nat) (cs : Array Value) (U : TypeId) (fr : Nat × Nat), w.heap[b]? = some (.cells cs U fr) → w.setCells b o vs = setBlock w b (.cells (wr cs o vs) U fr)
  | [], w, b, o, cs, U, fr, hb => (setBlock_same hb).symm
  | v :: r, w, b, o, cs, U, fr, hb => by
    unfold World.setCells wr
    rw [setCell_blk hb, setCells_blk r _ b (o + 1) (cs.setIfInBounds o v) U fr (heap_setBlock w _ (lt_size hb)), setBlock_setBlock]
theorem run_store_row {w : World} {T : TypeId} {p o : Nat} {cs xs : Array Value} {U : TypeId} (hw : w.heap[p]? = some (.cells cs U (0, 0)))
    (hi : (P.info? T).map (·.size) = some xs.size) (hs : o + xs.size ≤ cs.size) (h1 : xs.all (·.oneCell') = true) :
    (Instr.storeAt T (.pointer (some ⟨p, o, none⟩)) (.agg xs)).run P w = .ok () (setBlock w p (.cells (wr cs o xs.toList) U (0, 0))) := by
  rw [run_storeAt_mid (P := P) w p o T xs (fun j hj => ?_) hi h1, setCells_blk _ w p o cs U _ hw]
  constructor
  · rw [cell_blk, hw]; simp; omega
  · rw [frozen_blk, hw]; simp
theorem run_store_one {w : World} {T : TypeId} {p o : Nat} {cs : Array Value} {v : Value} {U : TypeId} (hw : w.heap[p]? = some (.cells cs U (0, 0)))
    (hi : (P.info? T).map (·.size) = some 1) (hs : o < cs.size) (h1 : v.oneCell' = true) :
    (Instr.storeAt T (.pointer (some ⟨p, o, none⟩)) v).run P w = .ok () (setBlock w p (.cells (cs.setIfInBounds o v) U (0, 0))) := by
  have hc : v.cells = #[v] := by cases v <;> first | rfl | simp [Value.oneCell'] at h1
  have hcell : w.cell? ⟨p, o, none⟩ = some cs[o] := by rw [cell_blk, hw]; simp [hs]
  have hfr : w.frozen? ⟨p, o, none⟩ = false := by rw [frozen_blk, hw]; simp
  cases hq : P.info? T with
  | none => simp [hq] at hi
  | some i =>
    have hz : i.size = 1 := by simpa [hq] using hi
    have hadd : (⟨p, o, none⟩ : Addr).add 0 = ⟨p, o, none⟩ := by rw [Addr.add_mid]; simp
    simp [Instr.storeAt, Instr.sureAddr, storeVar, sizeOf, typeInfo, hq, hc, hz, storeCells, hadd, run_store P w _ v _ h1, hcell, hfr, setCell_blk hw]
theorem run_store_box {w : World} {T : TypeId} {p : Nat} {cs xs : Array Value} {U : TypeId} (hw : w.heap[p]? = some (.cells cs U (0, 0)))
    (hi : (P.info? T).map (·.size) = some xs.size) (hs : xs.size = cs.size) (h1 : xs.all (·.oneCell') = true) :
    (Instr.storeAt T (.pointer (some ⟨p, 0, none⟩)) (.agg xs)).run P w = .ok () (setBlock w p (.cells xs U (0, 0))) := by
  rw [run_store_row hw hi (by omega) h1, wr_whole xs cs hs]
def farL (P : Program) (w : World) (T : TypeId) (b o : Nat) : Result Value := (Instr.loadAt T (.pointer (some ⟨b, o, none⟩))).run P w
/-- As a rule for the walk's simp: a row read out of a block that is known whole. -/
theorem load_rule {T : TypeId} {d : TypeDesc} {n : Nat} (hu : P.underlying T = some d) (hd : d.isRow = true) (hi : (P.info? T).map (·.size) = some n) (w : World) (b o : Nat) :
    (Instr.loadAt T (.pointer (some ⟨b, o, none⟩))).run P w =
      match w.heap[b]? with
      | some (.cells cs _ _) => if o + n ≤ cs.size then .ok (.agg (cs.extract o (o + n))) w else farL P w T b o
      | _ => farL P w T b o := by
  split
  · rename_i cs U fr hb
    split
    · rename_i hle; exact run_load_row hb hu hd hi hle
    · rfl
  · rfl
/-! Structs and rows built out of parts. -/
theorem fold_wr_list (off : Nat) : ∀ (xs : List Value) (n : Nat) (cells : Array Value), (xs.zipIdx n).foldl (fun (cs : Array Value) (p : Value × Nat) => cs.setIfInBounds (off + p.2) p.1) cells = wr cells (off + n) xs
  | [], _, _ => rfl
  | v :: r, n, cells => by
    simp only [List.zipIdx_cons, List.foldl_cons, wr]
    rw [fold_wr_list off r (n + 1)]
    rfl
theorem fold_wr (off : Nat) (xs cells : Array Value) : xs.zipIdx.foldl (fun (cs : Array Value) (p : Value × Nat) => cs.setIfInBounds (off + p.2) p.1) cells = wr cells off xs.toList := by
  rw [← Array.foldl_toList, Array.toList_zipIdx]
  exact fold_wr_list off xs.toList 0 cells
theorem wr_size : ∀ (vs : List Value) (cs : Array Value) (o : Nat), (wr cs o vs).size = cs.size
  | [], _, _ => rfl
  | v :: r, cs, o => by
    unfold wr
    rw [wr_size r]
    simp
theorem fill_cons {place : Nat → Option (Nat × Nat)} {cells : Array Value} {i off n : Nat} {v : Value} {rest : List (Nat × Value)} (hp : place i = some (off, n)) (hv : v.cells.size = n) (hc : off + n ≤ cells.size) :
    Instr.fill place cells ((i, v) :: rest) = Instr.fill place (wr cells off v.cells.toList) rest := by
  simp only [Instr.fill, hp]
  rw [if_neg (by simp [hv]; omega)]
  rw [← fold_wr off v.cells cells]
theorem run_build_struct {T : TypeId} {fs : Array Field} {z : Value} {places : Array (Nat × Nat)} {parts : Array (Nat × Value)} {cells : Array Value} (hu : P.underlying T = some (.struct fs)) (hz : ∀ w, (zeroValue T).run P w = .ok z w)
    (hp : ∀ w, (fs.mapM (fun (f : Field) => do pure (f.offset, ← sizeOf f.type) : Field → Sem (Nat × Nat))).run P w = .ok places w) (hf : Instr.fill (places[·]?) z.cells parts.toList = some cells) (w : World) :
    (Instr.build T parts).run P w = .ok (.agg cells) w := by
  unfold Instr.build
  simp only [Sem.run_bind, hz, Result.andThen_ok, run_underlying hu, hp, hf]
  rfl
theorem one_int (k : IntKind) (n : Int) : (Value.int k n).oneCell' = true := rfl
theorem one_bool (b : Bool) : (Value.bool b).oneCell' = true := rfl
theorem one_ptr (a : Option Addr) : (Value.pointer a).oneCell' = true := rfl
theorem one_slice (a : Option Addr) (n c : Nat) : (Value.slice a n c).oneCell' = true := rfl
theorem one_map (a : Option Nat) : (Value.map a).oneCell' = true := rfl
theorem one_string (a : ByteArray) : (Value.string a).oneCell' = true := rfl
def farS (P : Program) (w : World) (T : TypeId) (b o : Nat) (v : Value) : Result Unit := (Instr.storeAt T (.pointer (some ⟨b, o, none⟩)) v).run P w
/-- As a rule: a row stored into a block that is known whole. -/
theorem store_rule {T : TypeId} {n : Nat} (hi : (P.info? T).map (·.size) = some n) (w : World) (b o : Nat) (xs : Array Value) :
    (Instr.storeAt T (.pointer (some ⟨b, o, none⟩)) (.agg xs)).run P w =
      match w.heap[b]? with
      | some (.cells cs U (0, 0)) =>
        if o + n ≤ cs.size ∧ xs.size = n ∧ xs.all (·.oneCell') = true then .ok () (setBlock w b (.cells (if o = 0 ∧ n = cs.size then xs else wr cs o xs.toList) U (0, 0))) else farS P w T b o (.agg xs)
      | _ => farS P w T b o (.agg xs) := by
  split
  · rename_i cs U hb
    split
    · rename_i h
      obtain ⟨h1, h2, h3⟩ := h
      split
      · rename_i h4
        obtain ⟨rfl, h5⟩ := h4
        exact run_store_box hb (by rw [hi, h2]) (by omega) h3
      · exact run_store_row hb (by rw [hi, h2]) (by omega) h3
    · rfl
  · rfl
theorem store_one_rule {T : TypeId} (hi : (P.info? T).map (·.size) = some 1) (w : World) (b o : Nat) (v : Value) (hv : v.oneCell' = true) :
    (Instr.storeAt T (.pointer (some ⟨b, o, none⟩)) v).run P w =
      match w.heap[b]? with
      | some (.cells cs U (0, 0)) => if o < cs.size then .ok () (setBlock w b (.cells (cs.setIfInBounds o v) U (0, 0))) else farS P w T b o v
      | _ => farS P w T b o v := by
  split
  · rename_i cs U hb
    split
    · rename_i h
      exact run_store_one hb hi h hv
    · rfl
  · rfl
def farW (P : Program) (o : Oper) (a : Act) (w : World) (K : Act → World → Prop) (Q : Exit → Act → World → Prop) : Prop := o.wp P a w K Q
/-- The same rule at the operation, for the walk outside a pass. -/
theorem wp_load_rule {T : TypeId} {d : TypeDesc} {n : Nat} (hu : P.underlying T = some d) (hd : d.isRow = true) (hi : (P.info? T).map (·.size) = some n) (dst : Option Tmp) (x : Operand) (ty : TypeId) (pos : String) (after : Array Edge) (g : Option (Nat × Bool))
    (a : Act) (w : World) (K : Act → World → Prop) (Q : Exit → Act → World → Prop) :
    Oper.wp P { dst := dst, op := .load T x, type := ty, pos := pos, after := after, guard := g } a w K Q =
      match a.eval x with
      | .pointer (some ⟨b, o, none⟩) =>
        (match w.heap[b]? with
        | some (.cells cs _ _) => if o + n ≤ cs.size then K (a.put dst (.agg (cs.extract o (o + n)))) w else farW P { dst := dst, op := .load T x, type := ty, pos := pos, after := after, guard := g } a w K Q
        | _ => farW P { dst := dst, op := .load T x, type := ty, pos := pos, after := after, guard := g } a w K Q)
      | _ => farW P { dst := dst, op := .load T x, type := ty, pos := pos, after := after, guard := g } a w K Q := by
  split
  · rename_i b o hx
    split
    · rename_i cs U fr hb
      split
      · rename_i hle
        have := exec_load (P := P) (ρ := a.eval) (o := { dst := dst, op := .load T x, type := ty, pos := pos, after := after, guard := g }) rfl hx (run_load_row hb hu hd hi hle)
        unfold Oper.wp
        rw [this]
        rfl
      · rfl
    · rfl
  · rfl
theorem run_alloc_row {T : TypeId} {z : Value} (hz : ∀ w, (zeroValue T).run P w = .ok z w) (w : World) :
    (Instr.alloc T true (.tuple #[])).run P w = .ok (.pointer (some ⟨w.heap.size, 0, none⟩)) (w.alloc (.cells z.cells T)) := by
  simp [Instr.alloc, hz, newVar, newRow, newObj]
  rfl
end
/-! Short names for what px.py prints. -/
theorem zA : type_of% @List.getElem?_toArray := @List.getElem?_toArray
theorem zB : type_of% @List.getElem?_cons_succ := @List.getElem?_cons_succ
theorem zC : type_of% @List.getElem?_cons_zero := @List.getElem?_cons_zero
theorem zD : type_of% @Array.getD_eq_getD_getElem? := @Array.getD_eq_getD_getElem?
theorem zE : type_of% @Option.getD_some := @Option.getD_some
theorem zF : type_of% @List.setIfInBounds_toArray := @List.setIfInBounds_toArray
theorem zG : type_of% @List.set_cons_zero := @List.set_cons_zero
theorem zH : type_of% @List.set_cons_succ := @List.set_cons_succ
end Go.Proofs.Ytofpnmoeimjnnaa
