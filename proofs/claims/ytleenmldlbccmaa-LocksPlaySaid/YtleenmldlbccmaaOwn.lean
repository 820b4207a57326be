/- A list of roles that the call owns, and appending to it. -/
import Derived.Test.YtleenmldlbccmaaArg
import Derived.Maps.AppendAt
import Derived.Laws.OwnMore
import Derived.Great.BuildSlice
namespace Go.Proofs.Ytleenmldlbccmaa
set_option linter.unusedVariables false
set_option linter.unusedSimpArgs false
open Go.RowKit
/-! A region whose order is its text's, operation by operation. -/
section
variable {P : Program} {ops : Array Oper} {Q : Exit → Act → World → Prop}
theorem region_seq {id : Nat} {a : Act} {w : World} (n : Nat) (hn : ops.size = n) (h : wpOps P ops Q (List.range n) a w) : (Code.region id ops false).wp P Q a w := by
  refine wp_region ?_
  rw [hn]
  exact h
theorem sq_nil {a : Act} {w : World} (h : Q .normal a w) : wpOps P ops Q [] a w := h
theorem sq_eff {i : Nat} {r : List Nat} {a : Act} {o : Oper} {w w' : World} {v : Value} (ho : ops[i]? = some o) (hw : Region.wanted o (yielded ops a.tmps) = true)
    (hr : (execOp a.eval o).run P w = .ok (.value v) w') (h : wpOps P ops Q r (a.put o.dst v) w') : wpOps P ops Q (i :: r) a w := by
  unfold wpOps
  simp only [ho, hw, if_true]
  refine .inl ?_
  unfold Oper.wp
  rw [hr]
  exact h
theorem sq_val {i : Nat} {r : List Nat} {a : Act} {o : Oper} {w : World} {v : Value} (ho : ops[i]? = some o) (hw : Region.wanted o (yielded ops a.tmps) = true)
    (hr : (execOp a.eval o).run P w = .ok (.value v) w) (h : wpOps P ops Q r (a.put o.dst v) w) : wpOps P ops Q (i :: r) a w := sq_eff ho hw hr h
theorem sq_load {i : Nat} {r : List Nat} {a : Act} {o : Oper} {w : World} {T : TypeId} {x : Operand} {p v : Value} (ho : ops[i]? = some o) (hw : Region.wanted o (yielded ops a.tmps) = true)
    (hop : o.op = .load T x) (hx : a.eval x = p) (hr : (Instr.loadAt T p).run P w = .ok v w) (h : wpOps P ops Q r (a.put o.dst v) w) : wpOps P ops Q (i :: r) a w :=
  sq_eff ho hw (by subst hx; simp [execOp, hop, hr]) h
theorem sq_build {i : Nat} {r : List Nat} {a : Act} {o : Oper} {w w' : World} {v : Value} {T : TypeId} {n : Nat} {ps : Array (Nat × Operand)} {qs : Array (Nat × Value)} (ho : ops[i]? = some o) (hw : Region.wanted o (yielded ops a.tmps) = true)
    (hop : o.op = .buildSlice T n ps) (hps : ps.map (fun (i, x) => (i, a.eval x)) = qs) (hr : (Instr.buildSlice T n qs).run P w = .ok v w') (h : wpOps P ops Q r (a.put o.dst v) w') : wpOps P ops Q (i :: r) a w :=
  sq_eff ho hw (by subst hps; simp [execOp, hop, hr]) h
theorem sq_append {i : Nat} {r : List Nat} {a : Act} {o : Oper} {w w' : World} {v u v' : Value} {t : TypeId} {s x : Operand} (ho : ops[i]? = some o) (hw : Region.wanted o (yielded ops a.tmps) = true)
    (hop : o.op = .call { callee := .builtin .append, args := #[s, x], argTypes := #[t, t] }) (hs : a.eval s = v) (hx : a.eval x = u) (hr : (Builtin.append_ #[t, t] o.type #[v, u]).run P w = .ok v' w')
    (h : wpOps P ops Q r (a.put o.dst v') w') : wpOps P ops Q (i :: r) a w :=
  sq_eff ho hw (by
    unfold execOp
    simp only [hop, resolve, invoke, builtin, Sem.run_bind, Sem.run_pure, Result.andThen_ok, List.map_toArray, List.map_cons, List.map_nil, hs, hx, hr]) h
end
def rcs (l : List Role) : List Value := l.flatMap fun r => (rc r.k r.s r.w).toList
theorem rc_len (r : Role) : (rc r.k r.s r.w).toList.length = 34 := by
  rw [Array.length_toList, rc_size]
theorem rcs_len : ∀ l : List Role, (rcs l).length = l.length * 34
  | [] => rfl
  | r :: l => by
    have := rcs_len l
    unfold rcs at this ⊢
    rw [List.flatMap_cons, List.length_append, this, rc_len, List.length_cons]
    omega
theorem rcs_append (l m : List Role) : rcs (l ++ m) = rcs l ++ rcs m := by simp [rcs]
theorem rcs_get : ∀ (l : List Role) (i : Nat) (r : Role), l[i]? = some r → ((rcs l).drop (i * 34)).take 34 = (rc r.k r.s r.w).toList
  | [], i, r, h => by simp at h
  | x :: l, 0, r, h => by
    simp at h
    subst h
    show (((rc x.k x.s x.w).toList ++ rcs l).drop (0 * 34)).take 34 = _
    rw [Nat.zero_mul, List.drop_zero, ← rc_len x, List.take_left]
  | x :: l, i + 1, r, h => by
    have := rcs_get l i r (by simpa using h)
    show (((rc x.k x.s x.w).toList ++ rcs l).drop ((i + 1) * 34)).take 34 = _
    rw [List.drop_append, rc_len, List.drop_eq_nil_of_le (by rw [rc_len]; omega), List.nil_append, show (i + 1) * 34 - 34 = i * 34 by omega]
    exact this
def RoleOwn (w : World) (base : Nat) (v : Value) (l : List Role) : Prop := w.ownsRow base 44 34 v l.length (rcs l)
theorem RoleOwn.nil (w : World) (base : Nat) : RoleOwn w base (.slice none 0 0) [] := World.ownsRow_nil w base _ _
theorem RoleOwn.mod {w w' : World} {base : Nat} {v : Value} {l : List Role} {S : Nat → Prop} (h : RoleOwn w base v l) (hm : Mod S w w') (hS : ∀ b, v.ownBlock = some b → ¬ S b) : RoleOwn w' base v l := by
  refine ⟨h.1, ?_⟩
  rcases h.2 with hn | ⟨g, cap, cur, rfl, hb, hg, rest⟩
  · exact .inl hn
  · exact .inr ⟨g, cap, cur, rfl, hb, hm.at hg (hS g rfl), rest⟩
theorem RoleOwn.roles {w : World} {base : Nat} {v : Value} {l : List Role} (h : RoleOwn w base v l) : ∃ a c, v = .slice a l.length c ∧ RolesAt w a l ∧ (∀ x, a = some x → base ≤ x.block ∧ x.block < w.heap.size ∧ v.ownBlock = some x.block) ∧ l.length ≤ maxLen := by
  rcases h.2 with ⟨rfl, hn⟩ | ⟨g, cap, cur, rfl, hb, hg, hnc, hcm, hcs, htake⟩
  · obtain rfl : l = [] := List.eq_nil_of_length_eq_zero hn
    exact ⟨none, 0, rfl, .inl rfl, fun x hx => (by cases hx), (by simp)⟩
  · refine ⟨_, cap, rfl, .inr ⟨g, 0, cur, _, _, rfl, hg, fun i r hr => ?_⟩, fun x hx => ?_, Nat.le_trans hnc hcm⟩
    · have hi : i < l.length := (List.getElem?_eq_some_iff.1 hr).1
      have hle : (i + 1) * 34 ≤ cap * 34 := Nat.mul_le_mul_right _ (by omega)
      refine ⟨?_, by omega⟩
      have h1 := rcs_get l i r hr
      rw [← htake] at h1
      have h2 : ((cur.toList.take (l.length * 34)).drop (i * 34)).take 34 = (cur.toList.drop (i * 34)).take 34 := by
        rw [List.drop_take, List.take_take, Nat.min_eq_left]
        have : (i + 1) * 34 ≤ l.length * 34 := Nat.mul_le_mul_right _ hi
        omega
      rw [h2] at h1
      apply Array.ext'
      rw [← h1, Array.toList_extract]
      simp [List.extract]
    · cases hx
      exact ⟨hb, lt_size hg, rfl⟩
theorem rc_onecell (k : Key) (s b : Bool) : ∀ u ∈ (rc k s b).toList, u.oneCell' = true := by
  intro u hu
  unfold rc kx kc at hu
  simp at hu
  rcases hu with ⟨n, _, rfl⟩ | rfl | rfl
  · rfl
  · rfl
  · rfl
theorem RoleOwn.append {w : World} {base : Nat} {v : Value} {l : List Role} (h : RoleOwn w base v l) (r : Role) {p : Nat} (hp : w.heap[p]? = some (.cells (rc r.k r.s r.w) 44 (0, 0))) (hlen : l.length ≤ 1000000) (hbase : base ≤ w.heap.size) (ty : TypeId) :
    ∃ v' w', (Builtin.append_ #[23, 23] ty #[v, .slice (some ⟨p, 0, none⟩) 1 1]).run Try.prog w = .ok v' w' ∧ RoleOwn w' base v' (l ++ [r]) ∧ Mod (fun i => v.ownBlock = some i) w w' ∧ (v'.ownBlock = v.ownBlock ∨ v'.ownBlock = some w.heap.size) := by
  obtain ⟨i0, hi, hz0, hz1, hz2⟩ := info_parts (show (Try.prog.info? 44).map (fun i => (i.zero, i.size, i.bytes)) = some (some (.agg zRole), 34, 34) by kernel_rfl)
  obtain ⟨v', w', hrun, hown, hg, _, hat⟩ := run_append_own_at (P := Try.prog) w base 23 ty 44 i0 _ 34 34 Try.underlying23 hi hz0 hz1 hz2 zRole_size (by omega) v l.length (rcs l) h ⟨p, 0, none⟩ 1 1 (rc r.k r.s r.w).toList (rc_len r) (fun j u hu => by
    have hadd : (⟨p, 0, none⟩ : Addr).add j = ⟨p, j, none⟩ := by unfold Addr.add; split <;> simp_all
    rw [hadd, cell_of_row w p j _ _ _ hp]
    simpa using hu) (rc_onecell _ _ _) (by simp [maxLen]; omega) (by omega) hbase
  refine ⟨v', w', hrun, ?_, ⟨hg.os, hg.tape, hg.output, hg.size, fun i hi hs => hg.block i hi (fun e => hs e.symm)⟩, hat⟩
  unfold RoleOwn
  rw [rcs_append, List.length_append]
  simpa [rcs] using hown
theorem rc_setw (k : Key) (s b x : Bool) : (rc k s b).setIfInBounds 33 (.bool x) = rc k s x := by
  unfold rc kx
  rw [show (33 : Nat) = (kc k).size + 1 by simp, Array.setIfInBounds_append_right (by omega)]
  simp
theorem bsRole (k : Key) (s b : Bool) (w : World) : (Instr.buildSlice 23 1 #[(0, .agg (rc k s b))]).run Try.prog w = .ok (.slice (some ⟨w.heap.size, 0, none⟩) 1 1) (w.alloc (.cells (rc k s b) 44)) := by
  obtain ⟨i0, hi, hz0, hz1, hz2⟩ := info_parts (show (Try.prog.info? 44).map (fun i => (i.zero, i.size, i.bytes)) = some (some (.agg zRole), 34, 34) by kernel_rfl)
  have hf : Instr.fill (fun i => some (i * i0.size, i0.size)) ((Array.range (1 * i0.size)).map ((Value.agg zRole).cells[· % (Value.agg zRole).cells.size]!)) [(0, .agg (rc k s b))] = some (rc k s b) := by
    rw [hz1]
    rw [fill_cons (off := 0) (n := 34) rfl (by simp [Value.cells, rc_size]) (by simp)]
    show some (wr _ 0 _) = _
    rw [wr_whole _ _ (by simp [Value.cells, rc_size])]
    rfl
  exact run_buildSlice w _ _ 1 _ _ i0 _ Try.underlying23 hi hz0 (by rw [hz1]; omega) (by rw [hz1]; omega) hf
theorem TabAt.lt {w : World} {t hb wb n : Nat} {L : List Lk} (h : TabAt w t hb wb n L) : t < w.heap.size ∧ hb < w.heap.size ∧ wb < w.heap.size := by
  obtain ⟨_, kt, eh, ch, ew, cw, mh, mw, kh, _, kw, _, _⟩ := h
  exact ⟨lt_size kt, lt_size kh, lt_size kw⟩
theorem TabAt.out {w w' : World} {t hb wb n : Nat} {L : List Lk} {S : Nat → Prop} (h : TabAt w t hb wb n L) (hm : Mod S w w') (ht : ¬ S t) (hh : ¬ S hb) (hw : ¬ S wb) : TabAt w' t hb wb n L := by
  obtain ⟨h1, kt, eh, ch, ew, cw, mh, mw, kh, Mh, kw, Mw, I⟩ := h
  exact ⟨h1, hm.at kt ht, eh, ch, ew, cw, mh, mw, hm.at kh hh, Mh, hm.at kw hw, Mw, I⟩
end Go.Proofs.Ytleenmldlbccmaa
