/- A pass whose end may come in several orders. -/
import Derived.Test.YtffcnnogkpdinaaTf
namespace Go.Proofs.Ytffcnnogkpdinaa
set_option linter.unusedVariables false
section
variable {P : Program} {ops : Array Oper} {Q : Exit → Act → World → Prop} {T0 : Nat → Prop} {w0 : World} {κ : Nat → Nat} {υ : Nat → List Tmp}
theorem TG.soundX (hsel : ∀ (j : Nat) (p : Oper) cs b, ops[j]? = some p → p.op ≠ .select cs b)
    (hback : ∀ i o, ops[i]? = some o → ∀ e ∈ o.after, Region.binds .any e = true → e.on < i) {rest : List Nat} {E : Act → World → Prop} (hE : ∀ listed a w, Listing ops listed rest → E a w → wpAny P .any ops Q rest.length listed a w) :
    ∀ (fuel : Nat) (l : List Nat) (listed : Array Bool) (a : Act) (B : Bx) (K : Land) (w : World), l.length = fuel → (l ++ rest).Nodup → (∀ i ∈ l ++ rest, i < ops.size) → gPairsOk ops κ υ l = true →
      (∀ x ∈ l, ∀ y ∈ rest, x ≠ y ∧ (behindB ops x).testBit y = true) → Listing ops listed (l ++ rest) → Closed K →
      RG T0 w0 B K w → TG P ops (fun _ a w => E a w) T0 w0 κ υ l a B K → wpAny P .any ops Q (rest.length + fuel) listed a w := by
  intro fuel
  induction fuel with
  | zero =>
    intro l listed a B K w hl hn hlt hp hb hL hK hR h
    obtain rfl : l = [] := List.length_eq_zero_iff.1 hl
    have hte : E a w := by
      cases h with | nil h => exact h w hR
    exact hE listed a w (by simpa using hL) hte
  | succ fuel ih =>
    intro l listed a B K w hl hn hlt hp hb hL hK hR h
    refine ⟨fun hnil => ?_, fun i hi => ?_⟩
    · exfalso
      match l, hl with
      | i :: l', _ => exact exists_ready hback hL hlt i i (by simp) (Nat.le_refl _) hnil
    · obtain ⟨hun, o, ho, hall⟩ := mem_ready.1 hi
      have hil : i ∈ l := by
        rcases List.mem_append.1 ((hL.mem i).2 hun) with hin | hin
        · exact hin
        · exfalso
          clear h
          match l, hl with
          | x :: l', _ =>
            have hxy := hb x (by simp) i hin
            obtain ⟨_, hpth⟩ := (behindB_path hxy.2).resolve_left (fun e => hxy.1 e.symm)
            have hl1 := path_listed hL.closed _ x i o ho hall hpth
            have hl2 := getD_false_of_true ((hL.mem x).1 (by simp))
            rw [hl1] at hl2
            cases hl2
      obtain ⟨pre, post, rfl⟩ := List.append_of_mem hil
      obtain ⟨h1, h2⟩ := gPairsOk_split hp
      have hf := TG.front hsel ho pre a B K hK ⟨w, hR⟩ (fun x hx => by
        have := h1 x hx
        unfold gPairOk at this
        have hxo : ops[x]? = some (ops[x]'(hlt x (by simp [hx]))) := Array.getElem?_eq_getElem _
        rw [hxo, ho] at this
        simp only [Bool.or_eq_true, Bool.and_eq_true] at this
        rcases this with hpth | hok
        · obtain ⟨_, hpth⟩ := (behindB_path hpth.2).resolve_left (fun e => by have := hpth.1; simp [e] at this)
          have hl1 := path_listed hL.closed _ x i o ho hall hpth
          have hl2 := getD_false_of_true ((hL.mem x).1 (by simp [hx]))
          rw [hl1] at hl2
          cases hl2
        · exact ⟨_, hxo, hok.1, hok.2⟩) h
      have hl' : (pre ++ post).length = fuel := by simp at hl ⊢; omega
      have hsub : ((pre ++ post) ++ rest).Sublist ((pre ++ i :: post) ++ rest) := List.Sublist.append_right (List.Sublist.append_left (List.sublist_cons_self _ _) _) _
      have hn' : ((pre ++ post) ++ rest).Nodup := hn.sublist hsub
      have hlt' : ∀ j ∈ (pre ++ post) ++ rest, j < ops.size := fun j hj => hlt j (hsub.subset hj)
      have hb' : ∀ x ∈ pre ++ post, ∀ y ∈ rest, x ≠ y ∧ (behindB ops x).testBit y = true := fun x hx => hb x ((List.Sublist.append_left (List.sublist_cons_self i post) pre).subset hx)
      have hL' : Listing ops (listed.setIfInBounds i true) ((pre ++ post) ++ rest) := by
        have := Listing.next (pre := pre) (post := post ++ rest) (i := i) (by simpa using hL) (by simpa using hn) ho hall
        simpa using this
      rcases hf.kinds with ko | ko | ko | ko
      · obtain ⟨v, hy, ht⟩ := hf.inv_val ko ho
        obtain ⟨T, hRT⟩ := hR
        exact YieldsIf.wpOp ho hy hRT.mod (ih _ _ _ _ _ _ hl' hn' hlt' h2 hb' hL' hK ⟨T, hRT⟩ ht)
      · obtain ⟨hw, d, T, z, V, hd, hr, ht⟩ := hf.inv_alloc ko ho
        obtain ⟨U, hRT⟩ := hR
        have hR' : RG T0 w0 (B.set w.heap.size ⟨z, T, d⟩) K (w.alloc (.cells z T)) := ⟨U, hRT.alloc hK z T d⟩
        unfold wpOp
        simp only [ho, hw, if_true]
        refine .inl ?_
        unfold Oper.wp
        rw [hr w]
        exact ih _ _ _ _ _ _ hl' hn' hlt' h2 hb' hL' hK hR' (ht _ hRT.none ⟨_, hR'⟩)
      · obtain ⟨hw, hd, d, T, y, p, b, hop, hev, hbb, htag, hr, ht⟩ := hf.inv_store ko ho
        obtain ⟨U, hRT⟩ := hR
        unfold wpOp
        simp only [ho, hw, if_true]
        refine .inl ?_
        unfold Oper.wp
        rw [hr w (hRT.box p b hbb).2.2]
        simp only [Oper.upon, hd]
        exact ih _ _ _ _ _ _ hl' hn' hlt' h2 hb' hL' hK ⟨U, hRT.store hK hbb _⟩ ht
      · obtain ⟨hw, K', hE, ht⟩ := hf.inv_eff ko ho
        obtain ⟨U, hRT⟩ := hR
        exact (hE.step hRT).wp ho hw fun v w' hv => ih _ _ _ _ _ _ hl' hn' hlt' h2 hb' hL' (hE.cl v) hv (ht v ⟨w', hv⟩)
/-- The end, in whichever order. -/
def headB (ops : Array Oper) (rest : List Nat) (i : Nat) : Bool := rest.all fun j => j == i || !(behindB ops j).testBit i
def AllE (P : Program) (ops : Array Oper) (Q : Exit → Act → World → Prop) : Nat → List Nat → Act → World → Prop
  | 0, _, a, w => Q .normal a w
  | n + 1, rest, a, w => ∀ i ∈ rest, headB ops rest i = true → wpOp P ops Q i (AllE P ops Q n (rest.erase i)) a w
theorem allE_nil {rest : List Nat} {a : Act} {w : World} (h : Q .normal a w) : AllE P ops Q 0 rest a w := h
theorem no_head {b : Bool} {p : Prop} (hf : b = false) (hb : b = true) : p := by
  rw [hf] at hb
  cases hb
theorem allE_any (hsel : ∀ (j : Nat) (p : Oper) cs b, ops[j]? = some p → p.op ≠ .select cs b)
    (hback : ∀ i o, ops[i]? = some o → ∀ e ∈ o.after, Region.binds .any e = true → e.on < i) : ∀ (n : Nat) (rest : List Nat), rest.length = n → rest.Nodup → (∀ i ∈ rest, i < ops.size) →
    ∀ (listed : Array Bool) (a : Act) (w : World), Listing ops listed rest → AllE P ops Q n rest a w → wpAny P .any ops Q n listed a w := by
  intro n
  induction n with
  | zero =>
    intro rest hl hn hlt listed a w hL h
    obtain rfl := List.length_eq_zero_iff.1 hl
    exact TE.sound (κ := fun _ => 0) hsel hback 0 [] listed a w rfl List.nodup_nil (by simp) rfl hL (.nil h)
  | succ n ih =>
    intro rest hl hn hlt listed a w hL h
    have hne : rest ≠ [] := by intro e; rw [e] at hl; cases hl
    refine ⟨fun hnil => ?_, fun i hi => ?_⟩
    · exfalso
      obtain ⟨x, hx⟩ := List.exists_mem_of_ne_nil _ hne
      exact exists_ready hback hL hlt x x hx (Nat.le_refl _) hnil
    · obtain ⟨hun, o, ho, hall⟩ := mem_ready.1 hi
      have hin := (hL.mem i).2 hun
      have hhead : headB ops rest i = true := by
        unfold headB
        rw [List.all_eq_true]
        intro j hj
        by_cases e : j = i
        · simp [e]
        · cases hb : (behindB ops j).testBit i with
          | false => simp
          | true =>
            exfalso
            obtain ⟨_, hpth⟩ := (behindB_path hb).resolve_left (fun e' => e e'.symm)
            have hl1 := path_listed hL.closed _ j i o ho hall hpth
            have hl2 := getD_false_of_true ((hL.mem j).1 hj)
            rw [hl1] at hl2
            cases hl2
      obtain ⟨pre, post, hr⟩ := List.append_of_mem hin
      have hN := Listing.next (pre := pre) (post := post) (i := i) (by rw [← hr]; exact hL) (by rw [← hr]; exact hn) ho hall
      have hq : (rest.erase i).Perm (pre ++ post) := List.Perm.cons_inv ((List.perm_cons_erase hin).symm.trans (by rw [hr]; exact List.perm_middle))
      refine wpOp_mono (fun a' w' hk => ?_) (h i hin hhead)
      refine ih (rest.erase i) (by rw [List.length_erase_of_mem hin]; omega) (hn.erase i) (fun x hx => hlt x (List.mem_of_mem_erase hx)) _ a' w' ⟨hN.size, fun x => (hq.mem_iff).trans (hN.mem x), hN.closed⟩ hk
/-- The look that is taken once. -/
def xRegOk (ops : Array Oper) (κ : Nat → Nat) (υ : Nat → List Tmp) (l rest : List Nat) : Bool :=
  Region.noSelect ops && ((List.range ops.size).all fun i => match ops[i]? with | none => false | some o => o.after.all fun e => !Region.binds .any e || decide (e.on < i)) &&
  (decide (rest.length + l.length = ops.size) && ((l ++ rest).all (fun i => decide (i < ops.size)) && ((List.range ops.size).all fun i => (l ++ rest).contains i))) &&
  (decide (l ++ rest).Nodup && gPairsOk ops κ υ l &&
    l.all (fun x => rest.all fun y => !(x == y) && (behindB ops x).testBit y))
theorem x_any {a : Act} {w1 : World} {K : Land} (l rest : List Nat) (hok : xRegOk ops κ υ l rest = true) (hK : Closed K) (hR : RG T0 w0 Bx.nil K w1)
    (h : TG P ops (fun _ a w => AllE P ops Q rest.length rest a w) T0 w0 κ υ l a Bx.nil K) : wpAny P .any ops Q ops.size (Array.replicate ops.size false) a w1 := by
  simp only [xRegOk, Bool.and_eq_true, List.all_eq_true, decide_eq_true_eq] at hok
  obtain ⟨⟨⟨h1, h2⟩, h3, h4, h5⟩, ⟨hnd, h6⟩, h8⟩ := hok
  have hback : ∀ i o, ops[i]? = some o → ∀ e ∈ o.after, Region.binds .any e = true → e.on < i := fun i o ho e he hb => by
    have := h2 i (List.mem_range.2 (Array.getElem?_eq_some_iff.1 ho).1)
    rw [ho] at this
    have := Array.all_eq_true_iff_forall_mem.1 this e he
    simpa [hb] using this
  rw [← h3]
  have hnr : rest.Nodup := (List.nodup_append.1 hnd).2.1
  refine TG.soundX (Region.noSelect_spec h1) hback (fun listed a w hL hE => allE_any (Region.noSelect_spec h1) hback rest.length rest rfl hnr (fun i hi => h4 i (List.mem_append_right _ hi)) listed a w hL hE) _ l _ a _ _ _ rfl hnd h4 h6 (fun x hx y hy => ?_) ?_ hK hR h
  · have := h8 x hx y hy
    exact ⟨by simpa using this.1, this.2⟩
  · rw [h3]
    refine ⟨by simp, fun i => ?_, fun i o hi => ?_⟩
    · constructor
      · intro hi
        have := h4 i hi
        simp [this]
      · intro hi
        have : i < ops.size := by
          rcases Nat.lt_or_ge i ops.size with h' | h'
          · exact h'
          · simp [Nat.not_lt.2 h'] at hi
        simpa using h5 i (List.mem_range.2 this)
    · exfalso
      have : (Array.replicate ops.size false).getD i false = false := by
        by_cases h' : i < ops.size
        · simp [h']
        · simp [h']
      rw [this] at hi
      cases hi
/-- **A REGION BY ONE PASS, WHOSE END MAY COME IN SEVERAL ORDERS.** -/
theorem wp_xpass {id : Nat} {a : Act} {w : World} {K : Land} (l rest : List Nat) (hm : P.follows .mixedOrders = true) (hok : xRegOk ops κ υ l rest = true) (hK : Closed K) (hk : K T0 w) (hlt : ∀ i, T0 i → i < w.heap.size)
    (h : TG P ops (fun _ a w => AllE P ops Q rest.length rest a w) T0 w κ υ l a Bx.nil K) : (Code.region id ops true).wp P Q a w :=
  wp_region_any hm (x_any l rest hok hK ⟨T0, hK T0 w w.drew hk (Mod.refl _ w).drew, hlt, fun _ _ h => h, (Mod.refl _ w).drew, fun _ _ hh => by cases hh⟩ h)
end
end Go.Proofs.Ytffcnnogkpdinaa
