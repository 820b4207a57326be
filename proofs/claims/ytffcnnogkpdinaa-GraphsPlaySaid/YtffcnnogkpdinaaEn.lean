/- Entries of maps: the place of one, and storing into it. -/
import Derived.WideKeyEntry
import Derived.Test.YtffcnnogkpdinaaTg
namespace Go.Proofs.Ytffcnnogkpdinaa
open Go.ChangeMaps (setBlock)
set_option linter.unusedSimpArgs false
set_option linter.unusedVariables false
set_option linter.unusedSectionVars false
theorem find_born {es : Array MapEntry} {j : Nat} {e0 : MapEntry} (hn : (es.toList.map (·.born)).Nodup) (h : es.toList[j]? = some e0) : es.findIdx? (fun e => ((e.born : Nat) : Int) == ((e0.born : Nat) : Int)) = some j := by
  rw [Array.findIdx?_eq_some_iff_getElem]
  have hj : j < es.size := by simpa using (List.getElem?_eq_some_iff.1 h).1
  have he : es[j] = e0 := by
    have := (List.getElem?_eq_some_iff.1 h).2
    simpa using this
  refine ⟨hj, by simp [he], fun i hi => ?_⟩
  intro e
  have hi2 : i < es.size := by omega
  have e2 : es[i].born = e0.born := by
    have := beq_iff_eq.1 e
    exact_mod_cast this
  rw [List.nodup_iff_pairwise_ne, List.pairwise_iff_getElem] at hn
  have := hn i j (by simpa using hi2) (by simpa using hj) hi
  simp at this
  exact this (by rw [e2, ← he])
section
variable {κ ν : Type} [DecidableEq κ] {P : Program} {T K E : TypeId} {f : κ → Value} {g : ν → Value}
theorem MapIs.entry {es : Array MapEntry} {clock : Nat} {m : List (κ × ν)} (h : MapIs f g es clock m) (hk : KeyT P K f) (hT : P.underlying T = some (.map K E)) {z : ν} (hz : ∀ w, (zeroValue E).run P w = .ok (g z) w)
    (w : World) {b : Nat} (hb : w.heap[b]? = some (.map es clock)) (k : κ) :
    ∃ st es1 c1, (Instr.mapEntry T (.map (some b)) (f k)).run P w = .ok (.tuple #[g ((lkp k m).getD z), goInt st]) (setBlock w b (.map es1 c1)) ∧ MapIs f g es1 c1 (put k ((lkp k m).getD z) m) ∧
      ∀ (w2 : World) (x : ν), w2.heap[b]? = some (.map es1 c1) → ∃ es' c', (Instr.entryStore T (.map (some b)) (goInt st) (g x)).run P w2 = .ok () (setBlock w2 b (.map es' c')) ∧ MapIs f g es' c' (put k x m) := by
  obtain ⟨l, hl⟩ := hk.lit k
  rcases h.find hk w k with ⟨h1, h2⟩ | ⟨j, u, e, hm, he, hek, hev, h1, h2⟩
  · refine ⟨clock, es.push ⟨f k, g z, clock⟩, clock + 1, ?_, ?_, fun w2 x hw2 => ⟨es.push ⟨f k, g x, clock⟩, clock + 1, ?_, ?_⟩⟩
    · simp [Instr.mapEntry, run_underlying hT, MapKept.run_getObj_map hb, hk.law.check w _ hl, h2, h1, hz, MapKept.run_setObj_map _ hb, Result.andThen, setBlock]
    · obtain ⟨es', c', hr, M⟩ := h.update hk hT w hb k z
      have e1 : (Instr.mapUpdate T (.map (some b)) (f k) (g z)).run P w = .ok () (setBlock w b (.map (es.push ⟨f k, g z, clock⟩) (clock + 1))) := by
        simp [Instr.mapUpdate, run_underlying hT, MapKept.run_getObj_map hb, hk.law.check w _ hl, h2, MapKept.run_setObj_map _ hb, Result.andThen, setBlock]
      rw [e1] at hr
      have e2 := congrArg (fun r => match r with | .ok _ w => w.heap[b]? | _ => none) hr
      simp only [heap_setBlock w _ (lt_size hb)] at e2
      cases e2
      rw [h1]
      exact M
    · have hidx : (es.push ⟨f k, g z, clock⟩).findIdx? (fun e => ((e.born : Nat) : Int) == ((clock : Nat) : Int)) = some es.size := by
        have := find_born (es := es.push ⟨f k, g z, clock⟩) (j := es.size) (e0 := ⟨f k, g z, clock⟩) (by
          simp only [Array.toList_push, List.map_append, List.map_cons, List.map_nil]
          refine List.nodup_append.2 ⟨h.apart, by simp, fun a ha c hc e1 => ?_⟩
          simp only [List.mem_singleton] at hc
          obtain ⟨x, hx, rfl⟩ := List.mem_map.1 ha
          have := h.lt x hx
          omega) (by simp)
        exact this
      have hmod : (es.push ⟨f k, g z, clock⟩).modify es.size (fun e => { e with val := g x }) = es.push ⟨f k, g x, clock⟩ := by
        apply Array.ext'
        rw [Array.toList_modify, Array.toList_push, Array.toList_push, ← Array.length_toList, modify_at _ (e := ⟨f k, g z, clock⟩) (by simp)]
        simp
      simp [Instr.entryStore, MapKept.run_getObj_map hw2, asInt, asIntOf, goInt, hidx, hmod, MapKept.run_setObj_map _ hw2, Result.andThen, setBlock]
    · obtain ⟨es', c', hr, M⟩ := h.update hk hT w hb k x
      have e1 : (Instr.mapUpdate T (.map (some b)) (f k) (g x)).run P w = .ok () (setBlock w b (.map (es.push ⟨f k, g x, clock⟩) (clock + 1))) := by
        simp [Instr.mapUpdate, run_underlying hT, MapKept.run_getObj_map hb, hk.law.check w _ hl, h2, MapKept.run_setObj_map _ hb, Result.andThen, setBlock]
      rw [e1] at hr
      have e2 := congrArg (fun r => match r with | .ok _ w => w.heap[b]? | _ => none) hr
      simp only [heap_setBlock w _ (lt_size hb)] at e2
      cases e2
      exact M
  · have hj : es[j]? = some e := by simpa using he
    have hsame : es.modify j (fun e => { e with key := f k }) = es := by
      apply Array.ext'
      rw [Array.toList_modify, modify_at _ he]
      have : ({ e with key := f k } : MapEntry) = e := by rw [← hek]
      rw [this]
      exact set_same he
    refine ⟨e.born, es, clock, ?_, ?_, fun w2 x hw2 => ⟨es.modify j (fun e' => { e' with key := f k, val := g x }), clock, ?_, ?_⟩⟩
    · simp [Instr.mapEntry, run_underlying hT, MapKept.run_getObj_map hb, hk.law.check w _ hl, h2, hj, hek, hk.law.stays w hl, hsame, MapKept.run_setObj_map _ hb, Result.andThen, setBlock, h1]
    · rw [h1, Option.getD_some, put_at h.nodup hm, set_same hm]
      exact h
    · have hidx : es.findIdx? (fun e' => ((e'.born : Nat) : Int) == ((e.born : Nat) : Int)) = some j := find_born h.apart he
      have hmod : es.modify j (fun e => { e with val := g x }) = es.modify j (fun e' => { e' with key := f k, val := g x }) := by
        apply Array.ext'
        rw [Array.toList_modify, Array.toList_modify, modify_at _ he, modify_at _ he, ← hek]
      simp [Instr.entryStore, MapKept.run_getObj_map hw2, asInt, asIntOf, goInt, hidx, hmod, MapKept.run_setObj_map _ hw2, Result.andThen, setBlock]
    · obtain ⟨es', c', hr, M⟩ := h.update hk hT w hb k x
      have e1 : (Instr.mapUpdate T (.map (some b)) (f k) (g x)).run P w = .ok () (setBlock w b (.map (es.modify j (fun e' => { e' with key := f k, val := g x })) clock)) := by
        simp [Instr.mapUpdate, run_underlying hT, MapKept.run_getObj_map hb, hk.law.check w _ hl, h2, hj, hek, hk.law.stays w hl, MapKept.run_setObj_map _ hb, Result.andThen, setBlock]
      rw [e1] at hr
      have e2 := congrArg (fun r => match r with | .ok _ w => w.heap[b]? | _ => none) hr
      simp only [heap_setBlock w _ (lt_size hb)] at e2
      cases e2
      exact M
end
section
variable {P : Program} {ops : Array Oper}
theorem eff_entry {i : Nat} {a : Act} {o : Oper} {K : Act → World → Prop} {w w' : World} {T : TypeId} {x y : Operand} {X Y v : Value} {Q : Exit → Act → World → Prop} (ho : ops[i]? = some o) (hw : Region.wanted o (yielded ops a.tmps) = true)
    (hop : o.op = .mapEntry T x y) (hx : a.eval x = X) (hy : a.eval y = Y) (hr : (Instr.mapEntry T X Y).run P w = .ok v w') (h : K (a.put o.dst v) w') : wpOp P ops Q i K a w :=
  eff_value ho hw (by subst hx; subst hy; simp [execOp, hop, hr, Result.andThen]) h
theorem eff_look {i : Nat} {a : Act} {o : Oper} {K : Act → World → Prop} {w w' : World} {T : TypeId} {x y : Operand} {b : Bool} {X Y v : Value} {Q : Exit → Act → World → Prop} (ho : ops[i]? = some o) (hw : Region.wanted o (yielded ops a.tmps) = true)
    (hop : o.op = .lookup T x y b) (hx : a.eval x = X) (hy : a.eval y = Y) (hr : (Instr.lookup T X Y b).run P w = .ok v w') (h : K (a.put o.dst v) w') : wpOp P ops Q i K a w :=
  eff_value ho hw (by subst hx; subst hy; simp [execOp, hop, hr, Result.andThen]) h
theorem eff_estore {i : Nat} {a : Act} {o : Oper} {K : Act → World → Prop} {w w' : World} {T : TypeId} {x y z : Operand} {X Y Z : Value} {Q : Exit → Act → World → Prop} (ho : ops[i]? = some o) (hw : Region.wanted o (yielded ops a.tmps) = true)
    (hop : o.op = .entryStore T x y z) (hx : a.eval x = X) (hy : a.eval y = Y) (hz : a.eval z = Z) (hr : (Instr.entryStore T X Y Z).run P w = .ok () w') (h : K (a.put o.dst undef) w') : wpOp P ops Q i K a w :=
  eff_skip ho hw (by subst hx; subst hy; subst hz; simp [execOp, hop, hr, Result.andThen]) h
theorem TE.mid_set {κ : Nat → Nat} {Q : Exit → Act → World → Prop} {r : List Nat} {a : Act} {w : World} {p : Nat} {o o' : Obj} (hb : w.heap[p]? = some o) (h : ∀ w', w'.heap[p]? = some o' → Mod (fun i => i = p) w w' → TE P ops Q κ r a w') : TE P ops Q κ r a (setBlock w p o') :=
  h _ (heap_setBlock w _ (lt_size hb)) (mod_set w p o')
theorem TE.mid_setCell {κ : Nat → Nat} {Q : Exit → Act → World → Prop} {r : List Nat} {a : Act} {w : World} {p i : Nat} {cs : Array Value} {U : TypeId} {fr : Nat × Nat} {v : Value} (hb : w.heap[p]? = some (.cells cs U fr))
    (h : ∀ w', w'.heap[p]? = some (.cells (cs.setIfInBounds i v) U fr) → Mod (fun i => i = p) w w' → TE P ops Q κ r a w') : TE P ops Q κ r a (w.setCell ⟨p, i, none⟩ v) := by
  rw [setCell_blk hb]
  exact TE.mid_set hb h
end
end Go.Proofs.Ytffcnnogkpdinaa
