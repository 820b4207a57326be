/- The walk of AccountsPlay: two stores, and the document's two. -/
import Derived.Test.YtknmiojegnbakaaRepL
import Derived.Test.YtknmiojegnbakaaBook3
namespace Go.Proofs.Ytknmiojegnbakaa
open Go.RowKit
open Go.ChangeMaps (setBlock)
set_option linter.unusedSimpArgs false
set_option linter.unusedVariables false
def zAct : Array Value := #[.int .u8 0] ++ (Array.replicate 32 (.int .u8 0) ++ zAcct)
theorem zAct_size : zAct.size = 67 := by simp [zAct, zAcct_size]
theorem ldAct (w : World) (b o : Nat) : (Instr.loadAt 33 (.pointer (some ⟨b, o, none⟩))).run Try.prog w =
      match w.heap[b]? with
      | some (.cells cs _ _) => if o + 67 ≤ cs.size then .ok (.agg (cs.extract o (o + 67))) w else farL Try.prog w 33 b o
      | _ => farL Try.prog w 33 b o := load_rule (d := _) Try.underlying33 rfl (by kernel_rfl) w b o
theorem stAct (w : World) (b o : Nat) (xs : Array Value) : (Instr.storeAt 33 (.pointer (some ⟨b, o, none⟩)) (.agg xs)).run Try.prog w =
      match w.heap[b]? with
      | some (.cells cs U (0, 0)) =>
        if o + 67 ≤ cs.size ∧ xs.size = 67 ∧ xs.all (·.oneCell') = true then .ok () (setBlock w b (.cells (if o = 0 ∧ 67 = cs.size then xs else wr cs o xs.toList) U (0, 0))) else farS Try.prog w 33 b o (.agg xs)
      | _ => farS Try.prog w 33 b o (.agg xs) := store_rule (by kernel_rfl) w b o xs
theorem wlAct (dst : Option Tmp) (x : Operand) (ty : TypeId) (pos : String) (after : Array Edge) (g : Option (Nat × Bool)) (a : Act) (w : World) (K : Act → World → Prop) (Q : Exit → Act → World → Prop) :
    Oper.wp Try.prog { dst := dst, op := .load 33 x, type := ty, pos := pos, after := after, guard := g } a w K Q =
      (match a.eval x with
      | .pointer (some ⟨b, o, none⟩) =>
        (match w.heap[b]? with
        | some (.cells cs _ _) => if o + 67 ≤ cs.size then K (a.put dst (.agg (cs.extract o (o + 67)))) w else farW Try.prog { dst := dst, op := .load 33 x, type := ty, pos := pos, after := after, guard := g } a w K Q
        | _ => farW Try.prog { dst := dst, op := .load 33 x, type := ty, pos := pos, after := after, guard := g } a w K Q)
      | _ => farW Try.prog { dst := dst, op := .load 33 x, type := ty, pos := pos, after := after, guard := g } a w K Q) := wp_load_rule (d := _) Try.underlying33 rfl (by kernel_rfl) dst x ty pos after g a w K Q
theorem alAct (w : World) : (Instr.alloc 33 true (.tuple #[])).run Try.prog w = .ok (.pointer (some ⟨w.heap.size, 0, none⟩)) (w.alloc (.cells zAct 33)) :=
  run_alloc_row (z := .agg zAct) (fun w => by kernel_rfl) w
theorem ac_all (x : AAct) : (ac x).extract 0 67 = ac x := by
  rw [show (67 : Nat) = (ac x).size by rw [ac_size]]
  exact Array.extract_size
theorem ac_one (x : AAct) : (ac x).all (·.oneCell') 0 67 = true := all_of (ac_size x) (by
  have h1 : (av x.a).all (·.oneCell') = true := by
    have := av_one x.a
    rwa [show (34 : Nat) = (av x.a).size by rw [av_size]] at this
  unfold ac
  rw [Array.all_append, Array.all_append, Array.all_append, kc_one, h1]
  simp [Value.oneCell'])
theorem ac_n (x : AAct) : (ac x)[0]? = some (.int .u8 (x.n.toNat : Int)) := by
  unfold ac
  rw [Array.getElem?_append_left (by simp)]
  rfl
theorem ac_n' (x : AAct) (h : 0 < (ac x).size) : (ac x)[0] = .int .u8 (x.n.toNat : Int) := by
  have := ac_n x
  rw [Array.getElem?_eq_getElem h] at this
  exact Option.some.inj this
/-- The four stores. -/
structure PS (w0 w : World) (p b r q c d : Nat) (m : List (Key × Acct)) (L : List Hold) (n : List (Key × Acct)) (M : List Hold) : Prop where
  S : StAt w p b m
  R : RAt w r L
  C : StAt w q c n
  D : RAt w d M
  bc : b ≠ c
  rd : r ≠ d
  nb : w0.heap.size ≤ b
  nc : w0.heap.size ≤ c
  nr : w0.heap.size ≤ r
  nd : w0.heap.size ≤ d
  mod : Mod (fun _ => False) w0 w
variable {w0 w : World} {p b r q c d : Nat} {m n : List (Key × Acct)} {L M : List Hold}
theorem PS.mod0 (h : PS w0 w p b r q c d m L n M) {w' : World} (hm : Mod (fun _ => False) w w') : PS w0 w' p b r q c d m L n M :=
  ⟨h.S.mod0 hm, h.R.mod0 hm, h.C.mod0 hm, h.D.mod0 hm, h.bc, h.rd, h.nb, h.nc, h.nr, h.nd, h.mod.then0 hm⟩
theorem StAt.ne_cells {w : World} {p b : Nat} {m : List (Key × Acct)} (h : StAt w p b m) {i : Nat} {C : Array Value} {U : TypeId} {fr : Nat × Nat} (hi : w.heap[i]? = some (.cells C U fr)) : b ≠ i := by
  obtain ⟨_, es, cl, kb, _⟩ := h
  exact ne_of_obj kb hi (by simp)
theorem RAt.cell {w : World} {r : Nat} {L : List Hold} (h : RAt w r L) : ∃ v, w.heap[r]? = some (.cells #[v] 50 (0, 0)) := by
  obtain ⟨v, k, _⟩ := h
  exact ⟨v, k⟩
theorem noHold_map {w : World} {b : Nat} {p : Nat} {m : List (Key × Acct)} (h : StAt w p b m) : NoHold w (fun i => i = b) := by
  rintro i rfl cur hc
  obtain ⟨_, es, cl, kb, _⟩ := h
  rw [kb] at hc
  cases hc
theorem noHold_ref {w : World} {r : Nat} {L : List Hold} (h : RAt w r L) : NoHold w (fun i => i = r) := by
  rintro i rfl cur hc
  obtain ⟨v, k⟩ := h.cell
  rw [k] at hc
  simp only [Option.some.injEq, Obj.cells.injEq] at hc
  exact absurd hc.2.1 (by decide)
theorem PS.put1 (h : PS w0 w p b r q c d m L n M) (k : Key) (a : Acct) : Calls Try.prog 13 #[.pointer (some ⟨p, 0, none⟩), .agg (kc k), .agg (av a)] w fun e w' => e = .returned (.int .i64 0) ∧ PS w0 w' p b r q c d (putA m k a) L n M ∧ Mod (fun i => i = b) w w' :=
  (put_c p b m k a w h.S).mono fun e w' hh => by
    obtain ⟨he, hT, hm⟩ := hh
    obtain ⟨vr, kr⟩ := h.R.cell
    obtain ⟨vd, kd⟩ := h.D.cell
    exact ⟨he, ⟨hT, h.R.mod hm (fun e => h.S.ne_cells kr e.symm) (noHold_map h.S), h.C.mod hm (fun e => h.S.ne_cells h.C.1 e.symm) (fun e => h.bc e.symm), h.D.mod hm (fun e => h.S.ne_cells kd e.symm) (noHold_map h.S), h.bc, h.rd, h.nb, h.nc, h.nr, h.nd, h.mod.then hm (fun i hi e => by have := h.nb; omega)⟩, hm⟩
theorem PS.put3 (h : PS w0 w p b r q c d m L n M) (k : Key) (a : Acct) : Calls Try.prog 13 #[.pointer (some ⟨q, 0, none⟩), .agg (kc k), .agg (av a)] w fun e w' => e = .returned (.int .i64 0) ∧ PS w0 w' p b r q c d m L (putA n k a) M ∧ Mod (fun i => i = c) w w' :=
  (put_c q c n k a w h.C).mono fun e w' hh => by
    obtain ⟨he, hT, hm⟩ := hh
    obtain ⟨vr, kr⟩ := h.R.cell
    obtain ⟨vd, kd⟩ := h.D.cell
    exact ⟨he, ⟨h.S.mod hm (fun e => h.C.ne_cells h.S.1 e.symm) (fun e => h.bc e), h.R.mod hm (fun e => h.C.ne_cells kr e.symm) (noHold_map h.C), hT, h.D.mod hm (fun e => h.C.ne_cells kd e.symm) (noHold_map h.C), h.bc, h.rd, h.nb, h.nc, h.nr, h.nd, h.mod.then hm (fun i hi e => by have := h.nc; omega)⟩, hm⟩
theorem st_ne_ref {w : World} {p b r : Nat} {m : List (Key × Acct)} {L : List Hold} (h : StAt w p b m) (k : RAt w r L) : p ≠ r ∧ b ≠ r := by
  obtain ⟨vr, kr⟩ := k.cell
  refine ⟨fun e => ?_, h.ne_cells kr⟩
  subst e
  have := h.1
  rw [kr] at this
  simp only [Option.some.injEq, Obj.cells.injEq] at this
  exact absurd this.2.1 (by decide)
theorem PS.put2 (h : PS w0 w p b r q c d m L n M) (k : Key) (a : Acct) (hL : L.length ≤ 400000) : Calls Try.prog 17 #[.pointer (some ⟨r, 0, none⟩), .agg (kc k), .agg (av a)] w fun e w' => e = .returned (.tuple #[]) ∧ PS w0 w' p b r q c d m (rputL k a (decide (a = acct0)) L) n M ∧ Mod (fun i => i = r) w w' :=
  (rput_c r L k a w h.R hL).mono fun e w' hh => by
    obtain ⟨he, hT, hm⟩ := hh
    have h1 := st_ne_ref h.S h.R
    have h2 := st_ne_ref h.C h.R
    exact ⟨he, ⟨h.S.mod hm h1.1 h1.2, hT, h.C.mod hm h2.1 h2.2, h.D.mod hm (fun e => h.rd e.symm) (noHold_ref h.R), h.bc, h.rd, h.nb, h.nc, h.nr, h.nd, h.mod.then hm (fun i hi e => by have := h.nr; omega)⟩, hm⟩
theorem PS.put4 (h : PS w0 w p b r q c d m L n M) (k : Key) (a : Acct) (hM : M.length ≤ 400000) : Calls Try.prog 17 #[.pointer (some ⟨d, 0, none⟩), .agg (kc k), .agg (av a)] w fun e w' => e = .returned (.tuple #[]) ∧ PS w0 w' p b r q c d m L n (rputL k a (decide (a = acct0)) M) ∧ Mod (fun i => i = d) w w' :=
  (rput_c d M k a w h.D hM).mono fun e w' hh => by
    obtain ⟨he, hT, hm⟩ := hh
    have h1 := st_ne_ref h.S h.D
    have h2 := st_ne_ref h.C h.D
    exact ⟨he, ⟨h.S.mod hm h1.1 h1.2, h.R.mod hm h.rd (noHold_ref h.D), h.C.mod hm h2.1 h2.2, hT, h.bc, h.rd, h.nb, h.nc, h.nr, h.nd, h.mod.then hm (fun i hi e => by have := h.nd; omega)⟩, hm⟩
end Go.Proofs.Ytknmiojegnbakaa
