/- The pass with effects, and an end in which values may be passed by effects. -/
import Derived.Test.YtdeghpmlhcaedaaDoorTf
namespace Go.Proofs.YtdeghpmlhcaedaaDoor
set_option linter.unusedVariables false
section
variable {P : Program} {ops : Array Oper} {Q : Exit → Act → World → Prop} {T0 : Nat → Prop} {w0 : World} {κ : Nat → Nat} {υ : Nat → List Tmp}
def kinds6 (kx ko : Nat) : Bool := kx == 0 && (ko == 0 || ko == 6)
def pair6 (ops : Array Oper) (κ : Nat → Nat) (x o : Nat) : Bool :=
  (!(x == o) && (behindB ops x).testBit o) || match ops[x]?, ops[o]? with
    | some ox, some oo => ox.apart ops oo && kinds6 (κ x) (κ o)
    | _, _ => false
def pairs6 (ops : Array Oper) (κ : Nat → Nat) : List Nat → Bool
  | [] => true
  | x :: r => r.all (fun o => pair6 ops κ x o) && pairs6 ops κ r
theorem pairs6_split {κ : Nat → Nat} {i : Nat} {post : List Nat} : ∀ {pre : List Nat}, pairs6 ops κ (pre ++ i :: post) = true → (∀ x ∈ pre, pair6 ops κ x i = true) ∧ pairs6 ops κ (pre ++ post) = true
  | [], h => by
    simp only [List.nil_append, pairs6, Bool.and_eq_true] at h
    exact ⟨fun _ hx => (List.not_mem_nil hx).elim, h.2⟩
  | x :: pre, h => by
    simp only [List.cons_append, pairs6, Bool.and_eq_true, List.all_eq_true] at h
    obtain ⟨h1, h2⟩ := pairs6_split h.2
    refine ⟨fun y hy => ?_, ?_⟩
    · rcases List.mem_cons.1 hy with rfl | hy
      · exact h.1 i (by simp)
      · exact h1 y hy
    · simp only [List.cons_append, pairs6, Bool.and_eq_true, List.all_eq_true]
      refine ⟨fun y hy => h.1 y ?_, h2⟩
      rcases List.mem_append.1 hy with hy | hy
      · exact List.mem_append_left _ hy
      · exact List.mem_append_right _ (List.mem_cons_of_mem _ hy)

theorem TE.front6 (hsel : ∀ (j : Nat) (p : Oper) cs b, ops[j]? = some p → p.op ≠ .select cs b) (hQ : ∀ c a d v w, Q (.panic c) (Act.put a d v) w → Q (.panic c) a w)
    {o : Nat} {oo : Oper} (ho : ops[o]? = some oo) {post : List Nat} {w : World} : ∀ (pre : List Nat) (a : Act),
      (∀ x ∈ pre, ∃ ox, ops[x]? = some ox ∧ ox.apart ops oo = true ∧ kinds6 (κ x) (κ o) = true) →
      TE P ops Q κ (pre ++ o :: post) a w → TE P ops Q κ (o :: (pre ++ post)) a w
  | [], _, _, h => h
  | x :: pre, a, hp, h => by
    obtain ⟨ox, hx, hap, hk⟩ := hp x (by simp)
    have kx0 : κ x = 0 := by
      simp only [kinds6, Bool.and_eq_true, beq_iff_eq] at hk
      exact hk.1
    obtain ⟨h1, h2, h3⟩ := Oper.apart_spec hap
    have hp' : ∀ y ∈ pre, ∃ oy, ops[y]? = some oy ∧ oy.apart ops oo = true ∧ kinds6 (κ y) (κ o) = true := fun y hy => hp y (List.mem_cons_of_mem _ hy)
    cases h with
    | eff R _ hk => omega
    | val hx' hy ht =>
      rw [hx] at hx'; cases hx'
      rename_i v
      have hf := TE.front6 hsel hQ ho pre _ hp' ht
      cases hf with
      | eff R ho' hk' hR hT =>
        exact .eff _ ho hk' (wpOp_putIf ho hap (fun cs b => hsel x ox cs b hx) (fun cs b => hsel o oo cs b ho) (fun c a w => hQ c a _ _ w) hy hR) (fun a' w' hh => .val hx hh.1 (hT _ _ hh.2))
      | val ho' hy2 ht2 =>
        rw [ho] at ho'; cases ho'
        rename_i u
        have eo := execOp_put (ops := ops) oo (fun cs b => hsel o oo cs b ho) a ox.dst v h1
        have wo := wanted_put (ops := ops) oo a ox.dst v h1
        have ex := execOp_put (ops := ops) ox (fun cs b => hsel x ox cs b hx) a oo.dst u h3
        have wx := wanted_put (ops := ops) ox a oo.dst u h3
        refine .val ho (hy2.of_same eo.symm wo.symm) (.val hx (hy.of_same ex wx) ?_)
        rw [← Act.put_comm a v u h2]
        exact ht2
theorem TE.sound6 (hQ : ∀ c a d v w, Q (.panic c) (Act.put a d v) w → Q (.panic c) a w) (hsel : ∀ (j : Nat) (p : Oper) cs b, ops[j]? = some p → p.op ≠ .select cs b)
    (hback : ∀ i o, ops[i]? = some o → ∀ e ∈ o.after, Region.binds .any e = true → e.on < i) :
    ∀ (fuel : Nat) (l : List Nat) (listed : Array Bool) (a : Act) (w : World), l.length = fuel → l.Nodup → (∀ i ∈ l, i < ops.size) → pairs6 ops κ l = true → Listing ops listed l → TE P ops Q κ l a w → wpAny P .any ops Q fuel listed a w := by
  intro fuel
  induction fuel with
  | zero =>
    intro l listed a w hl hn hlt hp hL h
    obtain rfl : l = [] := List.length_eq_zero_iff.1 hl
    refine ⟨?_, ?_⟩
    · rw [List.eq_nil_iff_forall_not_mem]
      intro i hi
      have := (hL.mem i).2 (mem_ready.1 hi).1
      cases this
    · cases h with | nil h => exact h
  | succ fuel ih =>
    intro l listed a w hl hn hlt hp hL h
    refine ⟨fun hnil => ?_, fun i hi => ?_⟩
    · exfalso
      match l, hl with
      | i :: l', _ => exact exists_ready hback hL hlt i i (by simp) (Nat.le_refl _) hnil
    · obtain ⟨hun, o, ho, hall⟩ := mem_ready.1 hi
      obtain ⟨pre, post, rfl⟩ := List.append_of_mem ((hL.mem i).2 hun)
      obtain ⟨h1, h2⟩ := pairs6_split hp
      have hf := TE.front6 hsel hQ ho pre a (fun x hx => by
        have := h1 x hx
        unfold pair6 at this
        have hxo : ops[x]? = some (ops[x]'(hlt x (by simp [hx]))) := Array.getElem?_eq_getElem _
        rw [hxo, ho] at this
        simp only [Bool.or_eq_true, Bool.and_eq_true] at this
        rcases this with hpth | hok
        · obtain ⟨_, hpth⟩ := (behindB_path hpth.2).resolve_left (fun e => by have := hpth.1; simp [e] at this)
          have hl1 := path_listed hL.closed _ x i o ho hall hpth
          have hl2 := getD_false_of_true ((hL.mem x).1 (by simp [hx]))
          rw [hl1] at hl2
          cases hl2
        · exact ⟨_, hxo, hok.1, hok.2⟩) h
      have hl' : (pre ++ post).length = fuel := by simp at hl ⊢; omega
      have hn' : (pre ++ post).Nodup := hn.sublist (List.Sublist.append_left (List.sublist_cons_self _ _) _)
      have hlt' : ∀ j ∈ pre ++ post, j < ops.size := fun j hj => hlt j (by
        rcases List.mem_append.1 hj with hj | hj
        · exact List.mem_append_left _ hj
        · exact List.mem_append_right _ (List.mem_cons_of_mem _ hj))
      cases hf with
      | val ho' hy ht =>
        rw [ho] at ho'
        cases ho'
        exact YieldsIf.wpOp ho hy trivial (ih (pre ++ post) _ _ _ hl' hn' hlt' h2 (hL.next hn ho hall) ht)
      | eff R ho' hk hR hT => exact wpOp_mono (fun a' w' hh => ih (pre ++ post) _ _ _ hl' hn' hlt' h2 (hL.next hn ho hall) (hT a' w' hh)) hR

theorem TG.soundE6 (hQ : ∀ c a d v w, Q (.panic c) (Act.put a d v) w → Q (.panic c) a w) (hsel : ∀ (j : Nat) (p : Oper) cs b, ops[j]? = some p → p.op ≠ .select cs b)
    (hback : ∀ i o, ops[i]? = some o → ∀ e ∈ o.after, Region.binds .any e = true → e.on < i) {rest : List Nat} (hrest : pairs6 ops κ rest = true) :
    ∀ (fuel : Nat) (l : List Nat) (listed : Array Bool) (a : Act) (B : Bx) (K : Land) (w : World), l.length = fuel → (l ++ rest).Nodup → (∀ i ∈ l ++ rest, i < ops.size) → gPairsOk ops κ υ l = true →
      (∀ x ∈ l, ∀ y ∈ rest, x ≠ y ∧ (behindB ops x).testBit y = true) → Listing ops listed (l ++ rest) → Closed K →
      RG T0 w0 B K w → TG P ops (fun _ a w => TE P ops Q κ rest a w) T0 w0 κ υ l a B K → wpAny P .any ops Q (rest.length + fuel) listed a w := by
  intro fuel
  induction fuel with
  | zero =>
    intro l listed a B K w hl hn hlt hp hb hL hK hR h
    obtain rfl : l = [] := List.length_eq_zero_iff.1 hl
    have hte : TE P ops Q κ rest a w := by
      cases h with | nil h => exact h w hR
    exact TE.sound6 hQ hsel hback _ rest listed a w rfl (by simpa using hn) (by simpa using hlt) hrest (by simpa using hL) hte
  | succ fuel ih =>
    intro l listed a B K w hl hn hlt hp hb hL hK hR h
    refine ⟨fun hnil => ?_, fun i hi => ?_⟩
    · exfalso
      match l, hl with
      | i :: l', _ => exact exists_ready hback hL hlt i i (by simp) (Nat.le_refl _) hnil
    · obtain ⟨hun, o, ho, hall⟩ := mem_ready.1 hi
      have hil : i ∈ l := by
        rcases List.mem_append.1 ((hL.mem i).2 hun) with hin | hin
        · exact hin
        · exfalso
          clear h
          match l, hl with
          | x :: l', _ =>
            have hxy := hb x (by simp) i hin
            obtain ⟨_, hpth⟩ := (behindB_path hxy.2).resolve_left (fun e => hxy.1 e.symm)
            have hl1 := path_listed hL.closed _ x i o ho hall hpth
            have hl2 := getD_false_of_true ((hL.mem x).1 (by simp))
            rw [hl1] at hl2
            cases hl2
      obtain ⟨pre, post, rfl⟩ := List.append_of_mem hil
      obtain ⟨h1, h2⟩ := gPairsOk_split hp
      have hf := TG.front hsel ho pre a B K hK ⟨w, hR⟩ (fun x hx => by
        have := h1 x hx
        unfold gPairOk at this
        have hxo : ops[x]? = some (ops[x]'(hlt x (by simp [hx]))) := Array.getElem?_eq_getElem _
        rw [hxo, ho] at this
        simp only [Bool.or_eq_true, Bool.and_eq_true] at this
        rcases this with hpth | hok
        · obtain ⟨_, hpth⟩ := (behindB_path hpth.2).resolve_left (fun e => by have := hpth.1; simp [e] at this)
          have hl1 := path_listed hL.closed _ x i o ho hall hpth
          have hl2 := getD_false_of_true ((hL.mem x).1 (by simp [hx]))
          rw [hl1] at hl2
          cases hl2
        · exact ⟨_, hxo, hok.1, hok.2⟩) h
      have hl' : (pre ++ post).length = fuel := by simp at hl ⊢; omega
      have hsub : ((pre ++ post) ++ rest).Sublist ((pre ++ i :: post) ++ rest) := List.Sublist.append_right (List.Sublist.append_left (List.sublist_cons_self _ _) _) _
      have hn' : ((pre ++ post) ++ rest).Nodup := hn.sublist hsub
      have hlt' : ∀ j ∈ (pre ++ post) ++ rest, j < ops.size := fun j hj => hlt j (hsub.subset hj)
      have hb' : ∀ x ∈ pre ++ post, ∀ y ∈ rest, x ≠ y ∧ (behindB ops x).testBit y = true := fun x hx => hb x ((List.Sublist.append_left (List.sublist_cons_self i post) pre).subset hx)
      have hL' : Listing ops (listed.setIfInBounds i true) ((pre ++ post) ++ rest) := by
        have := Listing.next (pre := pre) (post := post ++ rest) (i := i) (by simpa using hL) (by simpa using hn) ho hall
        simpa using this
      rcases hf.kinds with ko | ko | ko | ko
      · obtain ⟨v, hy, ht⟩ := hf.inv_val ko ho
        obtain ⟨T, hRT⟩ := hR
        exact YieldsIf.wpOp ho hy hRT.mod (ih _ _ _ _ _ _ hl' hn' hlt' h2 hb' hL' hK ⟨T, hRT⟩ ht)
      · obtain ⟨hw, d, T, z, V, hd, hr, ht⟩ := hf.inv_alloc ko ho
        obtain ⟨U, hRT⟩ := hR
        have hR' : RG T0 w0 (B.set w.heap.size ⟨z, T, d⟩) K (w.alloc (.cells z T)) := ⟨U, hRT.alloc hK z T d⟩
        unfold wpOp
        simp only [ho, hw, if_true]
        refine .inl ?_
        unfold Oper.wp
        rw [hr w]
        exact ih _ _ _ _ _ _ hl' hn' hlt' h2 hb' hL' hK hR' (ht _ hRT.none ⟨_, hR'⟩)
      · obtain ⟨hw, hd, d, T, y, p, b, hop, hev, hbb, htag, hr, ht⟩ := hf.inv_store ko ho
        obtain ⟨U, hRT⟩ := hR
        unfold wpOp
        simp only [ho, hw, if_true]
        refine .inl ?_
        unfold Oper.wp
        rw [hr w (hRT.box p b hbb).2.2]
        simp only [Oper.upon, hd]
        exact ih _ _ _ _ _ _ hl' hn' hlt' h2 hb' hL' hK ⟨U, hRT.store hK hbb _⟩ ht
      · obtain ⟨hw, K', hE, ht⟩ := hf.inv_eff ko ho
        obtain ⟨U, hRT⟩ := hR
        exact (hE.step hRT).wp ho hw fun v w' hv => ih _ _ _ _ _ _ hl' hn' hlt' h2 hb' hL' (hE.cl v) hv (ht v ⟨w', hv⟩)
/-- The look that is taken once. -/
def eReg6 (ops : Array Oper) (κ : Nat → Nat) (υ : Nat → List Tmp) (l rest : List Nat) : Bool :=
  Region.noSelect ops && ((List.range ops.size).all fun i => match ops[i]? with | none => false | some o => o.after.all fun e => !Region.binds .any e || decide (e.on < i)) &&
  (decide (rest.length + l.length = ops.size) && ((l ++ rest).all (fun i => decide (i < ops.size)) && ((List.range ops.size).all fun i => (l ++ rest).contains i))) &&
  (decide (l ++ rest).Nodup && gPairsOk ops κ υ l && pairs6 ops κ rest && l.all (fun x => rest.all fun y => !(x == y) && (behindB ops x).testBit y))
theorem e_any6 (hQ : ∀ c a d v w, Q (.panic c) (Act.put a d v) w → Q (.panic c) a w) {a : Act} {w1 : World} {K : Land} (l rest : List Nat) (hok : eReg6 ops κ υ l rest = true) (hK : Closed K) (hR : RG T0 w0 Bx.nil K w1)
    (h : TG P ops (fun _ a w => TE P ops Q κ rest a w) T0 w0 κ υ l a Bx.nil K) : wpAny P .any ops Q ops.size (Array.replicate ops.size false) a w1 := by
  simp only [eReg6, Bool.and_eq_true, List.all_eq_true, decide_eq_true_eq] at hok
  obtain ⟨⟨⟨h1, h2⟩, h3, h4, h5⟩, ⟨⟨hnd, h6⟩, h7⟩, h8⟩ := hok
  have hback : ∀ i o, ops[i]? = some o → ∀ e ∈ o.after, Region.binds .any e = true → e.on < i := fun i o ho e he hb => by
    have := h2 i (List.mem_range.2 (Array.getElem?_eq_some_iff.1 ho).1)
    rw [ho] at this
    have := Array.all_eq_true_iff_forall_mem.1 this e he
    simpa [hb] using this
  rw [← h3]
  refine TG.soundE6 hQ (Region.noSelect_spec h1) hback h7 _ l _ a _ _ _ rfl hnd h4 h6 (fun x hx y hy => ?_) ?_ hK hR h
  · have := h8 x hx y hy
    exact ⟨by simpa using this.1, this.2⟩
  · rw [h3]
    refine ⟨by simp, fun i => ?_, fun i o hi => ?_⟩
    · constructor
      · intro hi
        have := h4 i hi
        simp [this]
      · intro hi
        have : i < ops.size := by
          rcases Nat.lt_or_ge i ops.size with h' | h'
          · exact h'
          · simp [Nat.not_lt.2 h'] at hi
        simpa using h5 i (List.mem_range.2 this)
    · exfalso
      have : (Array.replicate ops.size false).getD i false = false := by
        by_cases h' : i < ops.size
        · simp [h']
        · simp [h']
      rw [this] at hi
      cases hi
/-- **A REGION BY ONE PASS WITH EFFECTS, AND AN END.** -/
theorem wp_fpass {id : Nat} {a : Act} {w : World} {K : Land} (l rest : List Nat) (hQ : ∀ c a d v w, Q (.panic c) (Act.put a d v) w → Q (.panic c) a w) (hm : P.follows .mixedOrders = true) (hok : eReg6 ops κ υ l rest = true) (hK : Closed K) (hk : K T0 w) (hlt : ∀ i, T0 i → i < w.heap.size)
    (h : TG P ops (fun _ a w => TE P ops Q κ rest a w) T0 w κ υ l a Bx.nil K) : (Code.region id ops true).wp P Q a w :=
  wp_region_any hm (e_any6 hQ l rest hok hK ⟨T0, hK T0 w w.drew hk (Mod.refl _ w).drew, hlt, fun _ _ h => h, (Mod.refl _ w).drew, fun _ _ hh => by cases hh⟩ h)
theorem wp_fpass0 {id : Nat} {a : Act} {w : World} {K : Land} (l rest : List Nat) (hQ : ∀ c a d v w, Q (.panic c) (Act.put a d v) w → Q (.panic c) a w) (hlin : Region.linearise .any ops 0 = List.range ops.size) (hok : eReg6 ops κ υ l rest = true) (hK : Closed K) (hk : K T0 w) (hlt : ∀ i, T0 i → i < w.heap.size)
    (h : TG P ops (fun _ a w => TE P ops Q κ rest a w) T0 w κ υ l a Bx.nil K) : (Code.region id ops false).wp P Q a w := by
  refine wp_region ?_
  rw [← hlin]
  exact wpAny_sound ops.size 0 _ a w (e_any6 hQ l rest hok hK ⟨T0, hk, hlt, fun _ _ h => h, Mod.refl _ _, fun _ _ hh => by cases hh⟩ h)
/-- A value that nothing is needed for is taken first. -/
def firstOk (ops : Array Oper) (listed : Array Bool) (i : Nat) : Bool :=
  Region.noSelect ops && (Region.ready .any ops listed).contains i && match ops[i]? with
    | none => false
    | some oi => (List.range ops.size).all fun j => match ops[j]? with
      | none => true
      | some oj => decide (j = i) || listed.getD j true || oj.after.any (fun e => Region.binds .any e && decide (e.on = i)) || oi.apart ops oj
theorem take_first {fuel : Nat} {listed : Array Bool} {a : Act} {w : World} {i : Nat} {oi : Oper} {v : Value} (hi : ops[i]? = some oi) (hok : firstOk ops listed i = true) (hQ : ∀ c a d v w, Q (.panic c) (Act.put a d v) w → Q (.panic c) a w)
    (hw : Region.wanted oi (yielded ops a.tmps) = true) (hy : ∀ w, (execOp a.eval oi).run P w = .ok (.value v) w) (h : wpAny P .any ops Q fuel (listed.setIfInBounds i true) (a.put oi.dst v) w) : wpAny P .any ops Q (fuel + 1) listed a w := by
  simp only [firstOk, hi, Bool.and_eq_true] at hok
  obtain ⟨⟨h1, h2⟩, h3⟩ := hok
  refine wpAny_first hi (Region.noSelect_spec h1) (fun c a w => hQ c a _ _ w) fuel listed a w (fun j oj hj hne hl hb => ?_) (List.contains_iff_mem.1 h2) (.inl ⟨hw, hy⟩) h
  have hjs : j < ops.size := (Array.getElem?_eq_some_iff.1 hj).1
  have := List.all_eq_true.1 h3 j (List.mem_range.2 hjs)
  rw [hj] at this
  simp only [Bool.or_eq_true, decide_eq_true_eq] at this
  rcases this with ((h | h) | h) | h
  · exact absurd h hne
  · rw [h] at hl; cases hl
  · obtain ⟨e, he, hb2⟩ := Array.any_eq_true'.1 h
    simp only [Bool.and_eq_true, decide_eq_true_eq] at hb2
    exact absurd hb2.2 (hb e he hb2.1)
  · exact h
def eRegL (ops : Array Oper) (κ : Nat → Nat) (υ : Nat → List Tmp) (listed : Array Bool) (l rest : List Nat) : Bool :=
  Region.noSelect ops && ((List.range ops.size).all fun i => match ops[i]? with | none => false | some o => o.after.all fun e => !Region.binds .any e || decide (e.on < i)) &&
  (decide (listed.size = ops.size) && ((l ++ rest).all (fun i => decide (i < ops.size)) && ((List.range ops.size).all fun i => (l ++ rest).contains i == !listed.getD i true))) &&
  ((List.range ops.size).all fun i => !listed.getD i false || match ops[i]? with | none => true | some o => o.after.all fun e => !Region.binds .any e || listed.getD e.on false) &&
  (decide (l ++ rest).Nodup && gPairsOk ops κ υ l && pairs6 ops κ rest && l.all (fun x => rest.all fun y => !(x == y) && (behindB ops x).testBit y))
theorem e_anyL (hQ : ∀ c a d v w, Q (.panic c) (Act.put a d v) w → Q (.panic c) a w) {a : Act} {w1 : World} {K : Land} {listed : Array Bool} (l rest : List Nat) (hok : eRegL ops κ υ listed l rest = true) (hK : Closed K) (hR : RG T0 w0 Bx.nil K w1)
    (h : TG P ops (fun _ a w => TE P ops Q κ rest a w) T0 w0 κ υ l a Bx.nil K) : wpAny P .any ops Q (rest.length + l.length) listed a w1 := by
  simp only [eRegL, Bool.and_eq_true, List.all_eq_true, decide_eq_true_eq] at hok
  obtain ⟨⟨⟨⟨h1, h2⟩, h3, h4, h5⟩, hc⟩, ⟨⟨hnd, h6⟩, h7⟩, h8⟩ := hok
  have hback : ∀ i o, ops[i]? = some o → ∀ e ∈ o.after, Region.binds .any e = true → e.on < i := fun i o ho e he hb => by
    have := h2 i (List.mem_range.2 (Array.getElem?_eq_some_iff.1 ho).1)
    rw [ho] at this
    have := Array.all_eq_true_iff_forall_mem.1 this e he
    simpa [hb] using this
  refine TG.soundE6 hQ (Region.noSelect_spec h1) hback h7 _ l _ a _ _ _ rfl hnd h4 h6 (fun x hx y hy => ?_) ?_ hK hR h
  · have := h8 x hx y hy
    exact ⟨by simpa using this.1, this.2⟩
  · refine ⟨h3, fun i => ?_, fun i o hi ho e he hb => ?_⟩
    · by_cases hi : i < ops.size
      · have := h5 i (List.mem_range.2 hi)
        rw [beq_iff_eq] at this
        constructor
        · intro hm
          rw [List.contains_iff_mem.2 hm] at this
          simpa using this.symm
        · intro hm
          rw [hm] at this
          exact List.contains_iff_mem.1 (by simpa using this)
      · constructor
        · intro hm
          exact absurd (h4 i hm) hi
        · intro hm
          have : listed.getD i true = true := by simp [h3, hi]
          rw [this] at hm
          cases hm
    · have := hc i (List.mem_range.2 (Array.getElem?_eq_some_iff.1 ho).1)
      rw [hi, ho] at this
      simp only [Bool.not_true, Bool.false_or] at this
      have := Array.all_eq_true_iff_forall_mem.1 this e he
      simpa [hb] using this
theorem rg_drew {K : Land} {w : World} (hK : Closed K) (hk : K T0 w) (hlt : ∀ i, T0 i → i < w.heap.size) : RG T0 w Bx.nil K { w with drawn := w.drawn + 1 } :=
  ⟨T0, hK T0 w w.drew hk (Mod.refl _ w).drew, hlt, fun _ _ h => h, (Mod.refl _ w).drew, fun _ _ hh => by cases hh⟩
end
end Go.Proofs.YtdeghpmlhcaedaaDoor
