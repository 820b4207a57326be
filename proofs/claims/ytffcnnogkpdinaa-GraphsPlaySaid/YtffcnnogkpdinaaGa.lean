/- Graphs: the iterator of those ahead of a key's next one. -/
import Derived.RangeFuncNested
import Derived.RangeFuncBox
import Derived.RangeFuncLeaves
import Derived.RangeFuncCalls
import Derived.Shelf.Abstract
import Derived.WalkKit
import Derived.OwnWalkIn
import Derived.TacticsInMore
import Derived.LoopNIn
import Derived.LoopIn
import Derived.Maps.AppendAt
import Derived.Test.YtffcnnogkpdinaaGw
import Derived.Test.YtffcnnogkpdinaaIr
namespace Go.Proofs.Ytffcnnogkpdinaa
open Go.RowKit Go.Shelf
set_option linter.unusedSimpArgs false
set_option linter.unusedVariables false
attribute [local go_sem] Oper.semAt_some cell_blk frozen_blk one_int one_bool one_ptr one_slice one_map Value.cells
set_option maxHeartbeats 1000000 in
theorem ahead_c (s : Nat) (b : Bool) (w : World) : Calls Try.prog 24 #[ptrV s, .bool b] w fun e w' => e = .returned (.func (.func 35) #[] #[.pointer (some ⟨w.heap.size, 0, none⟩), .pointer (some ⟨w.heap.size + 1, 0, none⟩)]) ∧ w' = (w.alloc (.cells #[ptrV s] 67)).alloc (.cells #[.bool b] 4) := by
  go_enter Try.func24, Try.ntmps24
  go_wp2_with fail
  go_ret
  exact ⟨rfl, rfl⟩
/-- What a round must keep: what the iterator reads. -/
def KeepR (R : Nat → Prop) (W W' : World) : Prop := ∀ i, R i → W'.heap[i]? = W.heap[i]?
theorem keepR_t {R : Nat → Prop} {A B C : World} (h : KeepR R A B) (k : KeepR R B C) : KeepR R A C := fun i hi => (k i hi).trans (h i hi)
def aheadR (Bs Bw s : Nat) (rv : Value) (i : Nat) : Prop := i = Bs ∨ i = Bw ∨ i = s ∨ rv.ownBlock = some i
/-- Those ahead, in order. -/
def aheadL {α : Type} (zw : Option α) (zr : List α) (b : Bool) : List α := zw.toList ++ if b then zr else []
section
variable {α : Type} (f : α → Nat)
/-- (printed) -/
theorem printed : True := trivial
set_option maxRecDepth 100000 in
set_option maxHeartbeats 4000000 in
theorem ahead1_nil (n l Bs Bw s : Nat) (zw : Option α) (b : Bool) (ad : Option Addr) (c : Nat) (J Jx : List α → World → Prop)
    (hY : ∀ pre x W1, J pre W1 → pre.length < (aheadL zw [] b).length → YieldAt Fence.wide n Try.prog l #[ptrV (f x)] W1 fun e W' =>
      (e = .returned (.bool true) ∧ J (pre ++ [x]) W' ∧ KeepR (aheadR Bs Bw s (.slice ad 0 c)) W1 W') ∨ (e = .returned (.bool false) ∧ Jx (pre ++ [x]) W'))
    (W : World) (kb : W.heap[Bs]? = some (.cells #[ptrV s] 67 (0, 0))) (kw : W.heap[Bw]? = some (.cells #[.bool b] 4 (0, 0)))
    (ks : W.heap[s]? = some (.cells #[opV (zw.map f), .slice ad 0 c] 69 (0, 0))) (h0 : J [] W) :
    CallsIn Fence.wide (n + 1) Try.prog 35 #[.func (.yield l) #[] #[], .pointer (some ⟨Bs, 0, none⟩), .pointer (some ⟨Bw, 0, none⟩)] W fun e W' => (∃ v, e = .returned v) ∧
      (J (aheadL zw [] b) W' ∨ ∃ pre, Jx pre W') := by
  refine callsIn_of_wp Try.func35 rfl trivial ?_ rfl
  simp only [Try.ntmps35, List.size_toArray, List.length_cons, List.length_nil, Nat.reduceAdd, Nat.reduceSub, Array.replicate_succ, Array.replicate_zero, List.push_toArray, List.append_toArray, List.nil_append, List.cons_append]
  cases b with
  | false =>
    cases zw with
    | none =>
      replace ks : W.heap[s]? = some (.cells #[.pointer none, .slice ad 0 c] 69 (0, 0)) := ks
      gi_wp2
      refine ⟨fun _ h => (by cases h), ?_⟩
      gi_wp2
      refine bodyPost_ret (results_none rfl _ _ _) rfl ?_
      exact ⟨⟨_, rfl⟩, .inl h0⟩
    | some x =>
      obtain ⟨fn, tmps, assign, body, hy, hR⟩ := hY [] x W h0 (by simp [aheadL])
      replace ks : W.heap[s]? = some (.cells #[ptrV (f x), .slice ad 0 c] 69 (0, 0)) := ks
      gi_wp2
      refine hR.mono ?_
      rintro e W3 (⟨rfl, hJ, hk3⟩ | ⟨rfl, hJx3⟩)
      · replace kw := (hk3 Bw (.inr (.inl rfl))).trans kw
        gi_wp2
        refine bodyPost_ret (results_none rfl _ _ _) rfl ?_
        exact ⟨⟨_, rfl⟩, .inl hJ⟩
      · gi_wp2
        refine bodyPost_ret (results_none rfl _ _ _) rfl ?_
        exact ⟨⟨_, rfl⟩, .inr ⟨_, hJx3⟩⟩
  | true =>
    cases zw with
    | none =>
      replace ks : W.heap[s]? = some (.cells #[.pointer none, .slice ad 0 c] 69 (0, 0)) := ks
      gi_wp2
      refine ⟨fun _ h => (by cases h), ?_⟩
      gi_wp2
      have hJ := h0
      gi_loopw [29] (fun i wr => i = .int .i64 0 ∧ J ([] : List α) wr) (fun _ _ => 0)
      case atStart => exact ⟨rfl, hJ⟩
      case round =>
        obtain ⟨rfl, hJs⟩ := hrel
        gi_wp2
        go_end0
        exact ⟨⟨_, rfl⟩, .inl hJs⟩
    | some x =>
      obtain ⟨fn, tmps, assign, body, hy, hR⟩ := hY [] x W h0 (by simp [aheadL])
      replace ks : W.heap[s]? = some (.cells #[ptrV (f x), .slice ad 0 c] 69 (0, 0)) := ks
      gi_wp2
      refine hR.mono ?_
      rintro e W3 (⟨rfl, hJ, hk3⟩ | ⟨rfl, hJx3⟩)
      · replace kw := (hk3 Bw (.inr (.inl rfl))).trans kw
        replace kb := (hk3 Bs (.inl rfl)).trans kb
        replace ks := (hk3 s (.inr (.inr (.inl rfl)))).trans ks
        gi_wp2
        gi_loopw [29] (fun i wr => i = .int .i64 0 ∧ J [x] wr) (fun _ _ => 0)
        case atStart => exact ⟨rfl, hJ⟩
        case round =>
          obtain ⟨rfl, hJs⟩ := hrel
          gi_wp2
          go_end0
          exact ⟨⟨_, rfl⟩, .inl hJs⟩
      · gi_wp2
        refine bodyPost_ret (results_none rfl _ _ _) rfl ?_
        exact ⟨⟨_, rfl⟩, .inr ⟨_, hJx3⟩⟩
set_option maxRecDepth 100000 in
set_option maxHeartbeats 4000000 in
theorem ahead1_row (n l Bs Bw s : Nat) (zw : Option α) (b : Bool) (zr : List α) (g c : Nat) (cur : Array Value) (hlen : zr.length ≤ 1000000) (hcur : ∀ (i : Nat) (x : α), zr[i]? = some x → cur[i]? = some (ptrV (f x))) (J Jx : List α → World → Prop)
    (hY : ∀ pre x W1, J pre W1 → pre.length < (aheadL zw zr b).length → YieldAt Fence.wide n Try.prog l #[ptrV (f x)] W1 fun e W' =>
      (e = .returned (.bool true) ∧ J (pre ++ [x]) W' ∧ KeepR (aheadR Bs Bw s (.slice (some ⟨g, 0, none⟩) zr.length c)) W1 W') ∨ (e = .returned (.bool false) ∧ Jx (pre ++ [x]) W'))
    (W : World) (kb : W.heap[Bs]? = some (.cells #[ptrV s] 67 (0, 0))) (kw : W.heap[Bw]? = some (.cells #[.bool b] 4 (0, 0)))
    (ks : W.heap[s]? = some (.cells #[opV (zw.map f), .slice (some ⟨g, 0, none⟩) zr.length c] 69 (0, 0))) (kg : W.heap[g]? = some (.cells cur 62 (0, 0))) (h0 : J [] W) :
    CallsIn Fence.wide (n + 1) Try.prog 35 #[.func (.yield l) #[] #[], .pointer (some ⟨Bs, 0, none⟩), .pointer (some ⟨Bw, 0, none⟩)] W fun e W' => (∃ v, e = .returned v) ∧
      (J (aheadL zw zr b) W' ∨ ∃ pre, Jx pre W') := by
  refine callsIn_of_wp Try.func35 rfl trivial ?_ rfl
  simp only [Try.ntmps35, List.size_toArray, List.length_cons, List.length_nil, Nat.reduceAdd, Nat.reduceSub, Array.replicate_succ, Array.replicate_zero, List.push_toArray, List.append_toArray, List.nil_append, List.cons_append]
  have HC := Lib.hid hcur
  clear hcur
  cases b with
  | false =>
    cases zw with
    | none =>
      replace ks : W.heap[s]? = some (.cells #[.pointer none, .slice (some ⟨g, 0, none⟩) zr.length c] 69 (0, 0)) := ks
      gi_wp2
      refine ⟨fun _ h => (by cases h), ?_⟩
      gi_wp2
      refine bodyPost_ret (results_none rfl _ _ _) rfl ?_
      exact ⟨⟨_, rfl⟩, .inl h0⟩
    | some x =>
      obtain ⟨fn, tmps, assign, body, hy, hR⟩ := hY [] x W h0 (by simp [aheadL])
      replace ks : W.heap[s]? = some (.cells #[ptrV (f x), .slice (some ⟨g, 0, none⟩) zr.length c] 69 (0, 0)) := ks
      gi_wp2
      refine hR.mono ?_
      rintro e W3 (⟨rfl, hJ, hk3⟩ | ⟨rfl, hJx3⟩)
      · replace kw := (hk3 Bw (.inr (.inl rfl))).trans kw
        gi_wp2
        refine bodyPost_ret (results_none rfl _ _ _) rfl ?_
        exact ⟨⟨_, rfl⟩, .inl hJ⟩
      · gi_wp2
        refine bodyPost_ret (results_none rfl _ _ _) rfl ?_
        exact ⟨⟨_, rfl⟩, .inr ⟨_, hJx3⟩⟩
  | true =>
    cases zw with
    | none =>
      replace ks : W.heap[s]? = some (.cells #[.pointer none, .slice (some ⟨g, 0, none⟩) zr.length c] 69 (0, 0)) := ks
      gi_wp2
      refine ⟨fun _ h => (by cases h), ?_⟩
      gi_wp2
      have hJ := h0
      gi_loopw [29] (fun i wr => ∃ k : Nat, k ≤ zr.length ∧ i = .int .i64 k ∧ J (([] : List α) ++ zr.take k) wr ∧ wr.heap[g]? = some (.cells cur 62 (0, 0)))
        (fun i _ => zr.length - (intOf i).toNat)
      case atStart => exact ⟨0, Nat.zero_le _, rfl, by simpa using hJ, kg⟩
      case round =>
        obtain ⟨k, hk, rfl, hJs, kg⟩ := hrel
        by_cases hlt : k < zr.length
        · have hx : zr[k]? = some zr[k] := List.getElem?_eq_getElem hlt
          generalize zr[k] = y at hx
          have hcx := HC.out k y hx
          have HX := Lib.hid hx
          clear hx
          obtain ⟨fn, tmps, assign, body, hy, hR⟩ := hY (([] : List α) ++ zr.take k) y wr hJs (by simp [aheadL]; omega)
          gi_wp2
          refine hR.mono ?_
          rintro e W3 (⟨rfl, hJ3, hk3⟩ | ⟨rfl, hJx3⟩)
          · have kg3 := (hk3 g (.inr (.inr (.inr rfl)))).trans kg
            gi_wp2
            go_roundw
            case rel => exact ⟨k + 1, by omega, by simp, by rw [List.take_add_one, HX.out, Option.toList_some, ← List.append_assoc]; exact hJ3, kg3⟩
            case measure => simp [intOf]; omega
          · gi_wp2
            refine bodyPost_ret (results_none rfl _ _ _) rfl ?_
            exact ⟨⟨_, rfl⟩, .inr ⟨_, hJx3⟩⟩
        · obtain rfl : k = zr.length := by omega
          gi_wp2
          go_end0
          refine ⟨⟨_, rfl⟩, .inl ?_⟩
          rw [List.take_length] at hJs
          exact hJs
    | some x =>
      obtain ⟨fn, tmps, assign, body, hy, hR⟩ := hY [] x W h0 (by simp [aheadL])
      replace ks : W.heap[s]? = some (.cells #[ptrV (f x), .slice (some ⟨g, 0, none⟩) zr.length c] 69 (0, 0)) := ks
      gi_wp2
      refine hR.mono ?_
      rintro e W3 (⟨rfl, hJ, hk3⟩ | ⟨rfl, hJx3⟩)
      · replace kw := (hk3 Bw (.inr (.inl rfl))).trans kw
        replace kb := (hk3 Bs (.inl rfl)).trans kb
        replace ks := (hk3 s (.inr (.inr (.inl rfl)))).trans ks
        replace kg := (hk3 g (.inr (.inr (.inr rfl)))).trans kg
        gi_wp2
        gi_loopw [29] (fun i wr => ∃ k : Nat, k ≤ zr.length ∧ i = .int .i64 k ∧ J ([x] ++ zr.take k) wr ∧ wr.heap[g]? = some (.cells cur 62 (0, 0)))
          (fun i _ => zr.length - (intOf i).toNat)
        case atStart => exact ⟨0, Nat.zero_le _, rfl, by simpa using hJ, kg⟩
        case round =>
          obtain ⟨k, hk, rfl, hJs, kg⟩ := hrel
          by_cases hlt : k < zr.length
          · have hx : zr[k]? = some zr[k] := List.getElem?_eq_getElem hlt
            generalize zr[k] = y at hx
            have hcx := HC.out k y hx
            have HX := Lib.hid hx
            clear hx
            obtain ⟨fn, tmps, assign, body, hy, hR⟩ := hY ([x] ++ zr.take k) y wr hJs (by simp [aheadL]; omega)
            gi_wp2
            refine hR.mono ?_
            rintro e W3 (⟨rfl, hJ3, hk3⟩ | ⟨rfl, hJx3⟩)
            · have kg3 := (hk3 g (.inr (.inr (.inr rfl)))).trans kg
              gi_wp2
              go_roundw
              case rel => exact ⟨k + 1, by omega, by simp, by rw [List.take_add_one, HX.out, Option.toList_some, ← List.append_assoc]; exact hJ3, kg3⟩
              case measure => simp [intOf]; omega
            · gi_wp2
              refine bodyPost_ret (results_none rfl _ _ _) rfl ?_
              exact ⟨⟨_, rfl⟩, .inr ⟨_, hJx3⟩⟩
          · obtain rfl : k = zr.length := by omega
            gi_wp2
            go_end0
            refine ⟨⟨_, rfl⟩, .inl ?_⟩
            rw [List.take_length] at hJs
            exact hJs
      · gi_wp2
        refine bodyPost_ret (results_none rfl _ _ _) rfl ?_
        exact ⟨⟨_, rfl⟩, .inr ⟨_, hJx3⟩⟩
/-- **The iterator's contract**, at whatever type stands for the nodes. -/
theorem ahead_stops (n Bs Bw s : Nat) (zw : Option α) (zr : List α) (b : Bool) (rv : Value) (w : World) (kb : w.heap[Bs]? = some (.cells #[ptrV s] 67 (0, 0))) (kw : w.heap[Bw]? = some (.cells #[.bool b] 4 (0, 0)))
    (ks : w.heap[s]? = some (.cells #[opV (zw.map f), rv] 69 (0, 0))) (ho : SlOwn pc 1 62 w 0 rv (zr.map f)) (hlen : zr.length ≤ 1000000) :
    SeqStopsK Fence.wide (n + 1) Try.prog 35 #[.pointer (some ⟨Bs, 0, none⟩), .pointer (some ⟨Bw, 0, none⟩)] (fun x : α => #[ptrV (f x)]) (KeepR (aheadR Bs Bw s rv)) (fun ys => ys = aheadL zw zr b) (fun _ => True) (aheadL zw zr b).length w := by
  intro l J Jx W hW _ _ hY h0
  have hb : ∀ {i o}, w.heap[i]? = some o → W.heap[i]? = some o := fun {i o} h => (hW.block i (lt_size h)).trans h
  by_cases hz : zr = []
  · subst hz
    obtain ⟨ad, c, rfl, _, _, _⟩ := ho.at ptrT
    refine (ahead1_nil f n l Bs Bw s zw b ad c J Jx hY W (hb kb) (hb kw) (hb ks) h0).mono ?_
    rintro e W' ⟨h1, h2⟩
    exact ⟨h1, h2.imp (fun h => ⟨_, rfl, h⟩) (fun ⟨p, h⟩ => ⟨p, trivial, h⟩)⟩
  · obtain ⟨g, c, cur, rfl, _, kg, _, _, hcur, _⟩ := own_row ho (by simpa using hz)
    simp only [List.length_map] at ks ⊢
    refine (ahead1_row f n l Bs Bw s zw b zr g c cur hlen (fun i x hx => hcur i (f x) (by simp [hx])) J Jx hY W (hb kb) (hb kw) (hb ks) (hb kg) h0).mono ?_
    rintro e W' ⟨h1, h2⟩
    exact ⟨h1, h2.imp (fun h => ⟨_, rfl, h⟩) (fun ⟨p, h⟩ => ⟨p, trivial, h⟩)⟩
end
end Go.Proofs.Ytffcnnogkpdinaa
