/- The pass with effects, and an end: operations behind all others. Appends in a pass. -/
import Derived.Test.YtofpnmoeimjnnaaTo
namespace Go.Proofs.Ytofpnmoeimjnnaa
set_option linter.unusedVariables false
section
variable {P : Program} {ops : Array Oper} {Q : Exit → Act → World → Prop} {T0 : Nat → Prop} {w0 : World} {κ : Nat → Nat} {υ : Nat → List Tmp}
theorem TG.soundE (hsel : ∀ (j : Nat) (p : Oper) cs b, ops[j]? = some p → p.op ≠ .select cs b)
    (hback : ∀ i o, ops[i]? = some o → ∀ e ∈ o.after, Region.binds .any e = true → e.on < i) {rest : List Nat} (hrest : pairsOk ops κ rest = true) :
    ∀ (fuel : Nat) (l : List Nat) (listed : Array Bool) (a : Act) (B : Bx) (K : Land) (w : World), l.length = fuel → (l ++ rest).Nodup → (∀ i ∈ l ++ rest, i < ops.size) → gPairsOk ops κ υ l = true →
      (∀ x ∈ l, ∀ y ∈ rest, x ≠ y ∧ (behindB ops x).testBit y = true) → Listing ops listed (l ++ rest) → Closed K →
      RG T0 w0 B K w → TG P ops (fun _ a w => TE P ops Q κ rest a w) T0 w0 κ υ l a B K → wpAny P .any ops Q (rest.length + fuel) listed a w := by
  intro fuel
  induction fuel with
  | zero =>
    intro l listed a B K w hl hn hlt hp hb hL hK hR h
    obtain rfl : l = [] := List.length_eq_zero_iff.1 hl
    have hte : TE P ops Q κ rest a w := by
      cases h with | nil h => exact h w hR
    exact TE.sound hsel hback _ rest listed a w rfl (by simpa using hn) (by simpa using hlt) hrest (by simpa using hL) hte
  | succ fuel ih =>
    intro l listed a B K w hl hn hlt hp hb hL hK hR h
    refine ⟨fun hnil => ?_, fun i hi => ?_⟩
    · exfalso
      match l, hl with
      | i :: l', _ => exact exists_ready hback hL hlt i i (by simp) (Nat.le_refl _) hnil
    · obtain ⟨hun, o, ho, hall⟩ := mem_ready.1 hi
      have hil : i ∈ l := by
        rcases List.mem_append.1 ((hL.mem i).2 hun) with hin | hin
        · exact hin
        · exfalso
          clear h
          match l, hl with
          | x :: l', _ =>
            have hxy := hb x (by simp) i hin
            obtain ⟨_, hpth⟩ := (behindB_path hxy.2).resolve_left (fun e => hxy.1 e.symm)
            have hl1 := path_listed hL.closed _ x i o ho hall hpth
            have hl2 := getD_false_of_true ((hL.mem x).1 (by simp))
            rw [hl1] at hl2
            cases hl2
      obtain ⟨pre, post, rfl⟩ := List.append_of_mem hil
      obtain ⟨h1, h2⟩ := gPairsOk_split hp
      have hf := TG.front hsel ho pre a B K hK ⟨w, hR⟩ (fun x hx => by
        have := h1 x hx
        unfold gPairOk at this
        have hxo : ops[x]? = some (ops[x]'(hlt x (by simp [hx]))) := Array.getElem?_eq_getElem _
        rw [hxo, ho] at this
        simp only [Bool.or_eq_true, Bool.and_eq_true] at this
        rcases this with hpth | hok
        · obtain ⟨_, hpth⟩ := (behindB_path hpth.2).resolve_left (fun e => by have := hpth.1; simp [e] at this)
          have hl1 := path_listed hL.closed _ x i o ho hall hpth
          have hl2 := getD_false_of_true ((hL.mem x).1 (by simp [hx]))
          rw [hl1] at hl2
          cases hl2
        · exact ⟨_, hxo, hok.1, hok.2⟩) h
      have hl' : (pre ++ post).length = fuel := by simp at hl ⊢; omega
      have hsub : ((pre ++ post) ++ rest).Sublist ((pre ++ i :: post) ++ rest) := List.Sublist.append_right (List.Sublist.append_left (List.sublist_cons_self _ _) _) _
      have hn' : ((pre ++ post) ++ rest).Nodup := hn.sublist hsub
      have hlt' : ∀ j ∈ (pre ++ post) ++ rest, j < ops.size := fun j hj => hlt j (hsub.subset hj)
      have hb' : ∀ x ∈ pre ++ post, ∀ y ∈ rest, x ≠ y ∧ (behindB ops x).testBit y = true := fun x hx => hb x ((List.Sublist.append_left (List.sublist_cons_self i post) pre).subset hx)
      have hL' : Listing ops (listed.setIfInBounds i true) ((pre ++ post) ++ rest) := by
        have := Listing.next (pre := pre) (post := post ++ rest) (i := i) (by simpa using hL) (by simpa using hn) ho hall
        simpa using this
      rcases hf.kinds with ko | ko | ko | ko
      · obtain ⟨v, hy, ht⟩ := hf.inv_val ko ho
        obtain ⟨T, hRT⟩ := hR
        exact YieldsIf.wpOp ho hy hRT.mod (ih _ _ _ _ _ _ hl' hn' hlt' h2 hb' hL' hK ⟨T, hRT⟩ ht)
      · obtain ⟨hw, d, T, z, V, hd, hr, ht⟩ := hf.inv_alloc ko ho
        obtain ⟨U, hRT⟩ := hR
        have hR' : RG T0 w0 (B.set w.heap.size ⟨z, T, d⟩) K (w.alloc (.cells z T)) := ⟨U, hRT.alloc hK z T d⟩
        unfold wpOp
        simp only [ho, hw, if_true]
        refine .inl ?_
        unfold Oper.wp
        rw [hr w]
        exact ih _ _ _ _ _ _ hl' hn' hlt' h2 hb' hL' hK hR' (ht _ hRT.none ⟨_, hR'⟩)
      · obtain ⟨hw, hd, d, T, y, p, b, hop, hev, hbb, htag, hr, ht⟩ := hf.inv_store ko ho
        obtain ⟨U, hRT⟩ := hR
        unfold wpOp
        simp only [ho, hw, if_true]
        refine .inl ?_
        unfold Oper.wp
        rw [hr w (hRT.box p b hbb).2.2]
        simp only [Oper.upon, hd]
        exact ih _ _ _ _ _ _ hl' hn' hlt' h2 hb' hL' hK ⟨U, hRT.store hK hbb _⟩ ht
      · obtain ⟨hw, K', hE, ht⟩ := hf.inv_eff ko ho
        obtain ⟨U, hRT⟩ := hR
        exact (hE.step hRT).wp ho hw fun v w' hv => ih _ _ _ _ _ _ hl' hn' hlt' h2 hb' hL' (hE.cl v) hv (ht v ⟨w', hv⟩)
/-- The look that is taken once. -/
def eRegOk (ops : Array Oper) (κ : Nat → Nat) (υ : Nat → List Tmp) (l rest : List Nat) : Bool :=
  Region.noSelect ops && ((List.range ops.size).all fun i => match ops[i]? with | none => false | some o => o.after.all fun e => !Region.binds .any e || decide (e.on < i)) &&
  (decide (rest.length + l.length = ops.size) && ((l ++ rest).all (fun i => decide (i < ops.size)) && ((List.range ops.size).all fun i => (l ++ rest).contains i))) &&
  (decide (l ++ rest).Nodup && gPairsOk ops κ υ l && pairsOk ops κ rest && l.all (fun x => rest.all fun y => !(x == y) && (behindB ops x).testBit y))
theorem e_any {a : Act} {w1 : World} {K : Land} (l rest : List Nat) (hok : eRegOk ops κ υ l rest = true) (hK : Closed K) (hR : RG T0 w0 Bx.nil K w1)
    (h : TG P ops (fun _ a w => TE P ops Q κ rest a w) T0 w0 κ υ l a Bx.nil K) : wpAny P .any ops Q ops.size (Array.replicate ops.size false) a w1 := by
  simp only [eRegOk, Bool.and_eq_true, List.all_eq_true, decide_eq_true_eq] at hok
  obtain ⟨⟨⟨h1, h2⟩, h3, h4, h5⟩, ⟨⟨hnd, h6⟩, h7⟩, h8⟩ := hok
  have hback : ∀ i o, ops[i]? = some o → ∀ e ∈ o.after, Region.binds .any e = true → e.on < i := fun i o ho e he hb => by
    have := h2 i (List.mem_range.2 (Array.getElem?_eq_some_iff.1 ho).1)
    rw [ho] at this
    have := Array.all_eq_true_iff_forall_mem.1 this e he
    simpa [hb] using this
  rw [← h3]
  refine TG.soundE (Region.noSelect_spec h1) hback h7 _ l _ a _ _ _ rfl hnd h4 h6 (fun x hx y hy => ?_) ?_ hK hR h
  · have := h8 x hx y hy
    exact ⟨by simpa using this.1, this.2⟩
  · rw [h3]
    refine ⟨by simp, fun i => ?_, fun i o hi => ?_⟩
    · constructor
      · intro hi
        have := h4 i hi
        simp [this]
      · intro hi
        have : i < ops.size := by
          rcases Nat.lt_or_ge i ops.size with h' | h'
          · exact h'
          · simp [Nat.not_lt.2 h'] at hi
        simpa using h5 i (List.mem_range.2 this)
    · exfalso
      have : (Array.replicate ops.size false).getD i false = false := by
        by_cases h' : i < ops.size
        · simp [h']
        · simp [h']
      rw [this] at hi
      cases hi
/-- **A REGION BY ONE PASS WITH EFFECTS, AND AN END.** -/
theorem wp_epass {id : Nat} {a : Act} {w : World} {K : Land} (l rest : List Nat) (hm : P.follows .mixedOrders = true) (hok : eRegOk ops κ υ l rest = true) (hK : Closed K) (hk : K T0 w) (hlt : ∀ i, T0 i → i < w.heap.size)
    (h : TG P ops (fun _ a w => TE P ops Q κ rest a w) T0 w κ υ l a Bx.nil K) : (Code.region id ops true).wp P Q a w :=
  wp_region_any hm (e_any l rest hok hK ⟨T0, hK T0 w w.drew hk (Mod.refl _ w).drew, hlt, fun _ _ h => h, (Mod.refl _ w).drew, fun _ _ hh => by cases hh⟩ h)
theorem wp_epass0 {id : Nat} {a : Act} {w : World} {K : Land} (l rest : List Nat) (hlin : Region.linearise .any ops 0 = List.range ops.size) (hok : eRegOk ops κ υ l rest = true) (hK : Closed K) (hk : K T0 w) (hlt : ∀ i, T0 i → i < w.heap.size)
    (h : TG P ops (fun _ a w => TE P ops Q κ rest a w) T0 w κ υ l a Bx.nil K) : (Code.region id ops false).wp P Q a w := by
  refine wp_region ?_
  rw [← hlin]
  exact wpAny_sound ops.size 0 _ a w (e_any l rest hok hK ⟨T0, hk, hlt, fun _ _ h => h, Mod.refl _ _, fun _ _ hh => by cases hh⟩ h)
/-- An append in a pass: what it leaves is told by K'. -/
theorem TG.appK {i : Nat} {r : List Nat} {a : Act} {B : Bx} {K : Land} {o : Oper} {x y : Operand} {X Y : Value} {ts : Array TypeId} (K' : Value → Land) (hcl : ∀ v, Good (K' v)) (ho : ops[i]? = some o) (hk : κ i = 6) (hw : Region.wanted o (yielded ops a.tmps) = true)
    (hop : o.op = .call { callee := .builtin .append, args := #[x, y], argTypes := ts }) (hx : a.eval x = X) (hy : a.eval y = Y)
    (hr : ∀ T w, K T w → (∀ i, T i → i < w.heap.size) → Mod T0 w0 w → UB T (υ i) B w → ∃ v w', (Builtin.append_ ts o.type #[X, Y]).run P w = .ok v w' ∧ Mod T w w' ∧ K' v (Grow T w w') w')
    (h : ∀ v, Inh T0 w0 B (K' v) → TG P ops Q T0 w0 κ υ r (a.put o.dst v) B (K' v)) : TG P ops Q T0 w0 κ υ (i :: r) a B K := by
  refine TG.eff' K' ho hk hw (fun v => (hcl v).cl) (fun T w k1 k2 k3 k4 => .inl ?_) h
  obtain ⟨v, w', h1, h2⟩ := hr T w k1 k2 k3 k4
  refine ⟨v, w', ?_, h2⟩
  subst hx
  subst hy
  simp [execOp, hop, resolve, invoke, builtin, h1]
end
end Go.Proofs.Ytofpnmoeimjnnaa
