/- The lemmas of the proof, part 4: how the program and its data lie in memory, and what its functions do. -/
import Derived.Test.YtofpnmoeimjnnaaGreatK3
import Derived.Lib.AppendZerosOnto
namespace Go.Proofs.YtofpnmoeimjnnaaGreat
set_option linter.unusedVariables false
section
variable {P : Program} {ops : Array Oper} {Q : Exit → Act → World → Prop} {T0 : Nat → Prop} {w0 : World} {κ : Nat → Nat} {υ : Nat → List Tmp}
def kinds6 (kx ko : Nat) : Bool := kx == 0 && (ko == 0 || ko == 6)
def pair6 (ops : Array Oper) (κ : Nat → Nat) (x o : Nat) : Bool :=
  (!(x == o) && (behindB ops x).testBit o) || match ops[x]?, ops[o]? with
    | some ox, some oo => ox.apart ops oo && kinds6 (κ x) (κ o)
    | _, _ => false
def pairs6 (ops : Array Oper) (κ : Nat → Nat) : List Nat → Bool
  | [] => true
  | x :: r => r.all (fun o => pair6 ops κ x o) && pairs6 ops κ r
theorem pairs6_split {κ : Nat → Nat} {i : Nat} {post : List Nat} : ∀ {pre : List Nat}, pairs6 ops κ (pre ++ i :: post) = true → (∀ x ∈ pre, pair6 ops κ x i = true) ∧ pairs6 ops κ (pre ++ post) = true
  | [], h => by
    simp only [List.nil_append, pairs6, Bool.and_eq_true] at h
    exact ⟨fun _ hx => (List.not_mem_nil hx).elim, h.2⟩
  | x :: pre, h => by
    simp only [List.cons_append, pairs6, Bool.and_eq_true, List.all_eq_true] at h
    obtain ⟨h1, h2⟩ := pairs6_split h.2
    refine ⟨fun y hy => ?_, ?_⟩
    · rcases List.mem_cons.1 hy with rfl | hy
      · exact h.1 i (by simp)
      · exact h1 y hy
    · simp only [List.cons_append, pairs6, Bool.and_eq_true, List.all_eq_true]
      refine ⟨fun y hy => h.1 y ?_, h2⟩
      rcases List.mem_append.1 hy with hy | hy
      · exact List.mem_append_left _ hy
      · exact List.mem_append_right _ (List.mem_cons_of_mem _ hy)
theorem TE.front6 (hsel : ∀ (j : Nat) (p : Oper) cs b, ops[j]? = some p → p.op ≠ .select cs b) (hQ : ∀ c a d v w, Q (.panic c) (Act.put a d v) w → Q (.panic c) a w)
    {o : Nat} {oo : Oper} (ho : ops[o]? = some oo) {post : List Nat} {w : World} : ∀ (pre : List Nat) (a : Act),
      (∀ x ∈ pre, ∃ ox, ops[x]? = some ox ∧ ox.apart ops oo = true ∧ kinds6 (κ x) (κ o) = true) →
      TE P ops Q κ (pre ++ o :: post) a w → TE P ops Q κ (o :: (pre ++ post)) a w
  | [], _, _, h => h
  | x :: pre, a, hp, h => by
    obtain ⟨ox, hx, hap, hk⟩ := hp x (by simp)
    have kx0 : κ x = 0 := by
      simp only [kinds6, Bool.and_eq_true, beq_iff_eq] at hk
      exact hk.1
    obtain ⟨h1, h2, h3⟩ := Oper.apart_spec hap
    have hp' : ∀ y ∈ pre, ∃ oy, ops[y]? = some oy ∧ oy.apart ops oo = true ∧ kinds6 (κ y) (κ o) = true := fun y hy => hp y (List.mem_cons_of_mem _ hy)
    cases h with
    | eff R _ hk => omega
    | val hx' hy ht =>
      rw [hx] at hx'; cases hx'
      rename_i v
      have hf := TE.front6 hsel hQ ho pre _ hp' ht
      cases hf with
      | eff R ho' hk' hR hT =>
        exact .eff _ ho hk' (wpOp_putIf ho hap (fun cs b => hsel x ox cs b hx) (fun cs b => hsel o oo cs b ho) (fun c a w => hQ c a _ _ w) hy hR) (fun a' w' hh => .val hx hh.1 (hT _ _ hh.2))
      | val ho' hy2 ht2 =>
        rw [ho] at ho'; cases ho'
        rename_i u
        have eo := execOp_put (ops := ops) oo (fun cs b => hsel o oo cs b ho) a ox.dst v h1
        have wo := wanted_put (ops := ops) oo a ox.dst v h1
        have ex := execOp_put (ops := ops) ox (fun cs b => hsel x ox cs b hx) a oo.dst u h3
        have wx := wanted_put (ops := ops) ox a oo.dst u h3
        refine .val ho (hy2.of_same eo.symm wo.symm) (.val hx (hy.of_same ex wx) ?_)
        rw [← Act.put_comm a v u h2]
        exact ht2
theorem TE.sound6 (hQ : ∀ c a d v w, Q (.panic c) (Act.put a d v) w → Q (.panic c) a w) (hsel : ∀ (j : Nat) (p : Oper) cs b, ops[j]? = some p → p.op ≠ .select cs b)
    (hback : ∀ i o, ops[i]? = some o → ∀ e ∈ o.after, Region.binds .any e = true → e.on < i) :
    ∀ (fuel : Nat) (l : List Nat) (listed : Array Bool) (a : Act) (w : World), l.length = fuel → l.Nodup → (∀ i ∈ l, i < ops.size) → pairs6 ops κ l = true → Listing ops listed l → TE P ops Q κ l a w → wpAny P .any ops Q fuel listed a w := by
  intro fuel
  induction fuel with
  | zero =>
    intro l listed a w hl hn hlt hp hL h
    obtain rfl : l = [] := List.length_eq_zero_iff.1 hl
    refine ⟨?_, ?_⟩
    · rw [List.eq_nil_iff_forall_not_mem]
      intro i hi
      have := (hL.mem i).2 (mem_ready.1 hi).1
      cases this
    · cases h with | nil h => exact h
  | succ fuel ih =>
    intro l listed a w hl hn hlt hp hL h
    refine ⟨fun hnil => ?_, fun i hi => ?_⟩
    · exfalso
      match l, hl with
      | i :: l', _ => exact exists_ready hback hL hlt i i (by simp) (Nat.le_refl _) hnil
    · obtain ⟨hun, o, ho, hall⟩ := mem_ready.1 hi
      obtain ⟨pre, post, rfl⟩ := List.append_of_mem ((hL.mem i).2 hun)
      obtain ⟨h1, h2⟩ := pairs6_split hp
      have hf := TE.front6 hsel hQ ho pre a (fun x hx => by
        have := h1 x hx
        unfold pair6 at this
        have hxo : ops[x]? = some (ops[x]'(hlt x (by simp [hx]))) := Array.getElem?_eq_getElem _
        rw [hxo, ho] at this
        simp only [Bool.or_eq_true, Bool.and_eq_true] at this
        rcases this with hpth | hok
        · obtain ⟨_, hpth⟩ := (behindB_path hpth.2).resolve_left (fun e => by have := hpth.1; simp [e] at this)
          have hl1 := path_listed hL.closed _ x i o ho hall hpth
          have hl2 := getD_false_of_true ((hL.mem x).1 (by simp [hx]))
          rw [hl1] at hl2
          cases hl2
        · exact ⟨_, hxo, hok.1, hok.2⟩) h
      have hl' : (pre ++ post).length = fuel := by simp at hl ⊢; omega
      have hn' : (pre ++ post).Nodup := hn.sublist (List.Sublist.append_left (List.sublist_cons_self _ _) _)
      have hlt' : ∀ j ∈ pre ++ post, j < ops.size := fun j hj => hlt j (by
        rcases List.mem_append.1 hj with hj | hj
        · exact List.mem_append_left _ hj
        · exact List.mem_append_right _ (List.mem_cons_of_mem _ hj))
      cases hf with
      | val ho' hy ht =>
        rw [ho] at ho'
        cases ho'
        exact YieldsIf.wpOp ho hy trivial (ih (pre ++ post) _ _ _ hl' hn' hlt' h2 (hL.next hn ho hall) ht)
      | eff R ho' hk hR hT => exact wpOp_mono (fun a' w' hh => ih (pre ++ post) _ _ _ hl' hn' hlt' h2 (hL.next hn ho hall) (hT a' w' hh)) hR
theorem TG.soundE6 (hQ : ∀ c a d v w, Q (.panic c) (Act.put a d v) w → Q (.panic c) a w) (hsel : ∀ (j : Nat) (p : Oper) cs b, ops[j]? = some p → p.op ≠ .select cs b)
    (hback : ∀ i o, ops[i]? = some o → ∀ e ∈ o.after, Region.binds .any e = true → e.on < i) {rest : List Nat} (hrest : pairs6 ops κ rest = true) :
    ∀ (fuel : Nat) (l : List Nat) (listed : Array Bool) (a : Act) (B : Bx) (K : Land) (w : World), l.length = fuel → (l ++ rest).Nodup → (∀ i ∈ l ++ rest, i < ops.size) → gPairsOk ops κ υ l = true →
      (∀ x ∈ l, ∀ y ∈ rest, x ≠ y ∧ (behindB ops x).testBit y = true) → Listing ops listed (l ++ rest) → Closed K →
      RG T0 w0 B K w → TG P ops (fun _ a w => TE P ops Q κ rest a w) T0 w0 κ υ l a B K → wpAny P .any ops Q (rest.length + fuel) listed a w := by
  intro fuel
  induction fuel with
  | zero =>
    intro l listed a B K w hl hn hlt hp hb hL hK hR h
    obtain rfl : l = [] := List.length_eq_zero_iff.1 hl
    have hte : TE P ops Q κ rest a w := by
      cases h with | nil h => exact h w hR
    exact TE.sound6 hQ hsel hback _ rest listed a w rfl (by simpa using hn) (by simpa using hlt) hrest (by simpa using hL) hte
  | succ fuel ih =>
    intro l listed a B K w hl hn hlt hp hb hL hK hR h
    refine ⟨fun hnil => ?_, fun i hi => ?_⟩
    · exfalso
      match l, hl with
      | i :: l', _ => exact exists_ready hback hL hlt i i (by simp) (Nat.le_refl _) hnil
    · obtain ⟨hun, o, ho, hall⟩ := mem_ready.1 hi
      have hil : i ∈ l := by
        rcases List.mem_append.1 ((hL.mem i).2 hun) with hin | hin
        · exact hin
        · exfalso
          clear h
          match l, hl with
          | x :: l', _ =>
            have hxy := hb x (by simp) i hin
            obtain ⟨_, hpth⟩ := (behindB_path hxy.2).resolve_left (fun e => hxy.1 e.symm)
            have hl1 := path_listed hL.closed _ x i o ho hall hpth
            have hl2 := getD_false_of_true ((hL.mem x).1 (by simp))
            rw [hl1] at hl2
            cases hl2
      obtain ⟨pre, post, rfl⟩ := List.append_of_mem hil
      obtain ⟨h1, h2⟩ := gPairsOk_split hp
      have hf := TG.front hsel ho pre a B K hK ⟨w, hR⟩ (fun x hx => by
        have := h1 x hx
        unfold gPairOk at this
        have hxo : ops[x]? = some (ops[x]'(hlt x (by simp [hx]))) := Array.getElem?_eq_getElem _
        rw [hxo, ho] at this
        simp only [Bool.or_eq_true, Bool.and_eq_true] at this
        rcases this with hpth | hok
        · obtain ⟨_, hpth⟩ := (behindB_path hpth.2).resolve_left (fun e => by have := hpth.1; simp [e] at this)
          have hl1 := path_listed hL.closed _ x i o ho hall hpth
          have hl2 := getD_false_of_true ((hL.mem x).1 (by simp [hx]))
          rw [hl1] at hl2
          cases hl2
        · exact ⟨_, hxo, hok.1, hok.2⟩) h
      have hl' : (pre ++ post).length = fuel := by simp at hl ⊢; omega
      have hsub : ((pre ++ post) ++ rest).Sublist ((pre ++ i :: post) ++ rest) := List.Sublist.append_right (List.Sublist.append_left (List.sublist_cons_self _ _) _) _
      have hn' : ((pre ++ post) ++ rest).Nodup := hn.sublist hsub
      have hlt' : ∀ j ∈ (pre ++ post) ++ rest, j < ops.size := fun j hj => hlt j (hsub.subset hj)
      have hb' : ∀ x ∈ pre ++ post, ∀ y ∈ rest, x ≠ y ∧ (behindB ops x).testBit y = true := fun x hx => hb x ((List.Sublist.append_left (List.sublist_cons_self i post) pre).subset hx)
      have hL' : Listing ops (listed.setIfInBounds i true) ((pre ++ post) ++ rest) := by
        have := Listing.next (pre := pre) (post := post ++ rest) (i := i) (by simpa using hL) (by simpa using hn) ho hall
        simpa using this
      rcases hf.kinds with ko | ko | ko | ko
      · obtain ⟨v, hy, ht⟩ := hf.inv_val ko ho
        obtain ⟨T, hRT⟩ := hR
        exact YieldsIf.wpOp ho hy hRT.mod (ih _ _ _ _ _ _ hl' hn' hlt' h2 hb' hL' hK ⟨T, hRT⟩ ht)
      · obtain ⟨hw, d, T, z, V, hd, hr, ht⟩ := hf.inv_alloc ko ho
        obtain ⟨U, hRT⟩ := hR
        have hR' : RG T0 w0 (B.set w.heap.size ⟨z, T, d⟩) K (w.alloc (.cells z T)) := ⟨U, hRT.alloc hK z T d⟩
        unfold wpOp
        simp only [ho, hw, if_true]
        refine .inl ?_
        unfold Oper.wp
        rw [hr w]
        exact ih _ _ _ _ _ _ hl' hn' hlt' h2 hb' hL' hK hR' (ht _ hRT.none ⟨_, hR'⟩)
      · obtain ⟨hw, hd, d, T, y, p, b, hop, hev, hbb, htag, hr, ht⟩ := hf.inv_store ko ho
        obtain ⟨U, hRT⟩ := hR
        unfold wpOp
        simp only [ho, hw, if_true]
        refine .inl ?_
        unfold Oper.wp
        rw [hr w (hRT.box p b hbb).2.2]
        simp only [Oper.upon, hd]
        exact ih _ _ _ _ _ _ hl' hn' hlt' h2 hb' hL' hK ⟨U, hRT.store hK hbb _⟩ ht
      · obtain ⟨hw, K', hE, ht⟩ := hf.inv_eff ko ho
        obtain ⟨U, hRT⟩ := hR
        exact (hE.step hRT).wp ho hw fun v w' hv => ih _ _ _ _ _ _ hl' hn' hlt' h2 hb' hL' (hE.cl v) hv (ht v ⟨w', hv⟩)
def eReg6 (ops : Array Oper) (κ : Nat → Nat) (υ : Nat → List Tmp) (l rest : List Nat) : Bool :=
  Region.noSelect ops && ((List.range ops.size).all fun i => match ops[i]? with | none => false | some o => o.after.all fun e => !Region.binds .any e || decide (e.on < i)) &&
  (decide (rest.length + l.length = ops.size) && ((l ++ rest).all (fun i => decide (i < ops.size)) && ((List.range ops.size).all fun i => (l ++ rest).contains i))) &&
  (decide (l ++ rest).Nodup && gPairsOk ops κ υ l && pairs6 ops κ rest && l.all (fun x => rest.all fun y => !(x == y) && (behindB ops x).testBit y))
def firstOk (ops : Array Oper) (listed : Array Bool) (i : Nat) : Bool :=
  Region.noSelect ops && (Region.ready .any ops listed).contains i && match ops[i]? with
    | none => false
    | some oi => (List.range ops.size).all fun j => match ops[j]? with
      | none => true
      | some oj => decide (j = i) || listed.getD j true || oj.after.any (fun e => Region.binds .any e && decide (e.on = i)) || oi.apart ops oj
theorem take_first {fuel : Nat} {listed : Array Bool} {a : Act} {w : World} {i : Nat} {oi : Oper} {v : Value} (hi : ops[i]? = some oi) (hok : firstOk ops listed i = true) (hQ : ∀ c a d v w, Q (.panic c) (Act.put a d v) w → Q (.panic c) a w)
    (hw : Region.wanted oi (yielded ops a.tmps) = true) (hy : ∀ w, (execOp a.eval oi).run P w = .ok (.value v) w) (h : wpAny P .any ops Q fuel (listed.setIfInBounds i true) (a.put oi.dst v) w) : wpAny P .any ops Q (fuel + 1) listed a w := by
  simp only [firstOk, hi, Bool.and_eq_true] at hok
  obtain ⟨⟨h1, h2⟩, h3⟩ := hok
  refine wpAny_first hi (Region.noSelect_spec h1) (fun c a w => hQ c a _ _ w) fuel listed a w (fun j oj hj hne hl hb => ?_) (List.contains_iff_mem.1 h2) (.inl ⟨hw, hy⟩) h
  have hjs : j < ops.size := (Array.getElem?_eq_some_iff.1 hj).1
  have := List.all_eq_true.1 h3 j (List.mem_range.2 hjs)
  rw [hj] at this
  simp only [Bool.or_eq_true, decide_eq_true_eq] at this
  rcases this with ((h | h) | h) | h
  · exact absurd h hne
  · rw [h] at hl; cases hl
  · obtain ⟨e, he, hb2⟩ := Array.any_eq_true'.1 h
    simp only [Bool.and_eq_true, decide_eq_true_eq] at hb2
    exact absurd hb2.2 (hb e he hb2.1)
  · exact h
def eRegL (ops : Array Oper) (κ : Nat → Nat) (υ : Nat → List Tmp) (listed : Array Bool) (l rest : List Nat) : Bool :=
  Region.noSelect ops && ((List.range ops.size).all fun i => match ops[i]? with | none => false | some o => o.after.all fun e => !Region.binds .any e || decide (e.on < i)) &&
  (decide (listed.size = ops.size) && ((l ++ rest).all (fun i => decide (i < ops.size)) && ((List.range ops.size).all fun i => (l ++ rest).contains i == !listed.getD i true))) &&
  ((List.range ops.size).all fun i => !listed.getD i false || match ops[i]? with | none => true | some o => o.after.all fun e => !Region.binds .any e || listed.getD e.on false) &&
  (decide (l ++ rest).Nodup && gPairsOk ops κ υ l && pairs6 ops κ rest && l.all (fun x => rest.all fun y => !(x == y) && (behindB ops x).testBit y))
theorem e_anyL (hQ : ∀ c a d v w, Q (.panic c) (Act.put a d v) w → Q (.panic c) a w) {a : Act} {w1 : World} {K : Land} {listed : Array Bool} (l rest : List Nat) (hok : eRegL ops κ υ listed l rest = true) (hK : Closed K) (hR : RG T0 w0 Bx.nil K w1)
    (h : TG P ops (fun _ a w => TE P ops Q κ rest a w) T0 w0 κ υ l a Bx.nil K) : wpAny P .any ops Q (rest.length + l.length) listed a w1 := by
  simp only [eRegL, Bool.and_eq_true, List.all_eq_true, decide_eq_true_eq] at hok
  obtain ⟨⟨⟨⟨h1, h2⟩, h3, h4, h5⟩, hc⟩, ⟨⟨hnd, h6⟩, h7⟩, h8⟩ := hok
  have hback : ∀ i o, ops[i]? = some o → ∀ e ∈ o.after, Region.binds .any e = true → e.on < i := fun i o ho e he hb => by
    have := h2 i (List.mem_range.2 (Array.getElem?_eq_some_iff.1 ho).1)
    rw [ho] at this
    have := Array.all_eq_true_iff_forall_mem.1 this e he
    simpa [hb] using this
  refine TG.soundE6 hQ (Region.noSelect_spec h1) hback h7 _ l _ a _ _ _ rfl hnd h4 h6 (fun x hx y hy => ?_) ?_ hK hR h
  · have := h8 x hx y hy
    exact ⟨by simpa using this.1, this.2⟩
  · refine ⟨h3, fun i => ?_, fun i o hi ho e he hb => ?_⟩
    · by_cases hi : i < ops.size
      · have := h5 i (List.mem_range.2 hi)
        rw [beq_iff_eq] at this
        constructor
        · intro hm
          rw [List.contains_iff_mem.2 hm] at this
          simpa using this.symm
        · intro hm
          rw [hm] at this
          exact List.contains_iff_mem.1 (by simpa using this)
      · constructor
        · intro hm
          exact absurd (h4 i hm) hi
        · intro hm
          have : listed.getD i true = true := by simp [h3, hi]
          rw [this] at hm
          cases hm
    · have := hc i (List.mem_range.2 (Array.getElem?_eq_some_iff.1 ho).1)
      rw [hi, ho] at this
      simp only [Bool.not_true, Bool.false_or] at this
      have := Array.all_eq_true_iff_forall_mem.1 this e he
      simpa [hb] using this
theorem rg_drew {K : Land} {w : World} (hK : Closed K) (hk : K T0 w) (hlt : ∀ i, T0 i → i < w.heap.size) : RG T0 w Bx.nil K { w with drawn := w.drawn + 1 } :=
  ⟨T0, hK T0 w w.drew hk (Mod.refl _ w).drew, hlt, fun _ _ h => h, (Mod.refl _ w).drew, fun _ _ hh => by cases hh⟩
end
end Go.Proofs.YtofpnmoeimjnnaaGreat
namespace Go.Proofs.YtofpnmoeimjnnaaGreat
open Go.RowKit
open Go.ChangeMaps (setBlock)
set_option linter.unusedSimpArgs false
set_option linter.unusedVariables false
attribute [local go_sem ↓] wlKey ldKey stKey wlAcct ldAcct stAcct wlHold ldHold stHold wlHash ldHash stHash wlSig ldSig stSig wlLim ldLim stLim wlRdy ldRdy stRdy wlOut ldOut stOut wlTd ldTd stTd wlTx ldTx stTx eqKey1
attribute [local go_sem] eqMap neMap av_size av_all av_one hd_size hd_key hd_acct hd_all hd_one zKey_size zAcct_size zHold_size zHash_size zSg_size zLim_size zRdy_size zOut_size zTried_size zTx_size cell_blk frozen_blk kc_ext one_int one_bool one_ptr one_slice one_map kc_one kc_one0 kc_size sgc_size sgc_ext sgc_one0 sgc_one' rdr_size rdr_all rdr_one rdr_tx rdr_rec rdr0 rdr1 rdr6 rdr39 rdr40 rdr41 rdr0' rdr1' rdr6' rdr39' rdr40' rdr41' ocr_size ocr_all ocr_one ocr2 ocr3 ocr4 ocr5 ocr2' ocr3' ocr4' ocr5' tdr_size tdr_all tdr_one tdr_r tdr_o tdr_tx tdr_rec tdr0 tdr1 tdr41 tdr50 tdr51 tdr52 tdr53 tdr0' tdr1' tdr41' tdr50' tdr51' tdr52' tdr53' txr_size txr_all txr_one txr0 txr38 txr39 txr0' txr38' txr39' Value.cells
theorem neMapU (w : World) (r : Option Nat) : (binOp .neq 194 (.map r) (.map none)).run Tryz.prog w = .ok (.bool !r.isNone) w := run_neq_map_nil w _ _ _ _ Tryz.underlying194
theorem eqMapU (w : World) (r : Option Nat) : (binOp .eql 194 (.map r) (.map none)).run Tryz.prog w = .ok (.bool r.isNone) w := run_eql_map_nil w _ _ _ _ Tryz.underlying194
attribute [local go_sem] eqMapU neMapU
theorem zero_u64 (w : World) : (zeroValue 50).run Tryz.prog w = .ok (u64v 0) w := by kernel_rfl
theorem bs64 (a b : UInt64) (w : World) : (Instr.buildSlice 189 2 #[(0, u64v a), (1, u64v b)]).run Tryz.prog w = .ok (.slice (some ⟨w.heap.size, 0, none⟩) 2 2) (w.alloc (.cells #[u64v a, u64v b] 50)) := by kernel_rfl
theorem key_at {w : World} {a : Option Addr} {l : List Key} (h : SlAt kc 32 w a l) {i : Nat} {x : Key} (hx : l[i]? = some x) : ∃ g o C U fr, a = some ⟨g, o, none⟩ ∧ w.heap[g]? = some (.cells C U fr) ∧ C.extract (o + i * 32) (o + i * 32 + 32) = kc x ∧ o + i * 32 + 32 ≤ C.size := h.block hx
theorem lt_dec {a b : UInt64} {z : Bool} (h : decide (a < b) = z) : decide (a.toNat < b.toNat) = z ∧ decide ((a.toNat : Int) < (b.toNat : Int)) = z := by
  subst h
  have e : (a < b) ↔ a.toNat < b.toNat := UInt64.lt_iff_toNat_lt
  constructor <;> simp [e]
set_option maxRecDepth 20000 in
set_option maxHeartbeats 3200000 in
theorem would_c {t m : Nat} {L : Lim} {b s : UInt64} {l : List (Key × UInt64)} (c sp : UInt64) (a : Option Addr) (ws : List Key) (cc : Nat) (w : World) (h : TrAt w t m L b s l) (hw : SlAt kc 32 w a ws) (hn : ws.length ≤ 100000) :
    Calls Tryz.prog 100 #[ptrV t, u64v c, .slice a ws.length cc, u64v sp] w fun e w' => e = .returned (.int .i64 (would L b s (ofK l) c ws sp : Nat)) ∧ Mod (fun _ => False) w w' := by
  obtain ⟨kt, es, cl, km, M⟩ := h
  obtain ⟨Lb, La, Ls⟩ := L
  dsimp only at kt
  have HW := Lib.hid hw
  have HM := Lib.hid M
  clear hw M
  go_enter Tryz.func100, Tryz.ntmps100
  obtain ⟨z1, hz1⟩ : ∃ z, sat b c = z := ⟨_, rfl⟩
  have HZ1 := Lib.hid hz1
  clear hz1
  cases hd1 : decide (Lb < z1) with
  | true =>
    obtain ⟨d1, d2⟩ := lt_dec hd1
    have HD := Lib.hid hd1
    clear hd1
    go_upto_region 3 with fail
    have Lkt := lt_size kt
    refine wp_gpass (T0 := fun _ => False) (K := fun _ _ => True) (κ := fun i => [0, 0, 0, 0, 0, 3, 6, 0, 0, 0, 0, 0, 0].getD i 0) (υ := fun i => [[], [], [], [], [], [], [25], [], [], [], [], [], []].getD i []) [0, 1, 2, 3, 4, 5, 6, 7, 8, 9, 10, 11, 12] (by kernel_rfl) (by kernel_rfl) (Good.true).cl (trivial) (fun _ h => h.elim) ?_
    have gK := Good.true
    (refine TG.v0 (v := ?v1) (by simp only [zA, zB, zC]; rfl) rfl ?hw1 (fun w1 => ?hy1) ?hn1; (case hw1 => rfl); (case hy1 => (go_simp; (try with_reducible rfl))); (try simp only [Act.put, zF, zG, zH]))
    (refine TG.v0 (v := ?v2) (by simp only [zA, zB, zC]; rfl) rfl ?hw2 (fun w1 => ?hy2) ?hn2; (case hw2 => rfl); (case hy2 => (go_simp; (try with_reducible rfl))); (try simp only [Act.put, zF, zG, zH]))
    (refine TG.v0 (v := ?v3) (by simp only [zA, zB, zC]; rfl) rfl ?hw3 (fun w1 => ?hy3) ?hn3; (case hw3 => rfl); (case hy3 => (go_simp; (try with_reducible rfl))); (try simp only [Act.put, zF, zG, zH]))
    (refine TG.load (v := ?v4) (p := ?p4) (by simp only [zA, zB, zC]; rfl) rfl ?hw4 rfl ?hx4 (fun wq hSq => ?hy4) ?hn4; (case hw4 => rfl); (case hx4 => (simp only [Act.eval, zD, zA, zB, zC, zE]; (try rfl))); (case hy4 => (have ktq := hSq.at kt (by intro hT; first | exact hT | exact absurd hT (by assumption) | omega | (simp only at hT; omega)); go_simp; (try with_reducible rfl))); (try simp only [Act.put, zF, zG, zH]))
    (refine TG.v0 (v := ?v5) (by simp only [zA, zB, zC]; rfl) rfl ?hw5 (fun w1 => ?hy5) ?hn5; (case hw5 => rfl); (case hy5 => (go_simp; (try with_reducible rfl))); (try simp only [Act.put, zF, zG, zH]))
    (refine TG.bslice (by simp only [zA, zB, zC]; rfl) rfl ?hw6 rfl rfl ?hx6 (bs64 b c) (fun p25 hp25 _ => ?hn6); (case hw6 => rfl); (case hx6 => (simp only [List.map_toArray, List.map_cons, List.map_nil, Act.eval, zD, zA, zB, zC, zE]; (try rfl))); (try simp only [Act.put, zF, zG, zH]))
    (refine TG.callN (f := ?f7) (args := ?r7) (fun v => v = u64v z1) gK (by simp only [zA, zB, zC]; rfl) rfl ?hw7 (fun w1 => ?hy7) (fun T wq kq ltq hSq ub => ?hsp7) ?hn7; (case hw7 => rfl); (case hy7 => (go_simp; (first | with_reducible rfl | (constructor <;> with_reducible rfl)))); (case hsp7 => (have ktq := hSq.at kt (by intro hT; first | exact hT | exact absurd hT (by assumption) | omega | (simp only at hT; omega)); have kp25 := ub.box (p := p25) (by first | exact Bx.set_same _ _ _ | (simp only [Bx.set_same]; rfl)) (by first | decide | exact List.mem_singleton.2 rfl | simp); dsimp only [Value.cells] at kp25; have nUp25 := (ub p25 _ (by first | exact Bx.set_same _ _ _ | (simp only [Bx.set_same]; rfl)) (by first | decide | exact List.mem_singleton.2 rfl | simp)).1; exact (tsum_c p25 b c wq kp25).mono (fun e w' h => ⟨_, h.1, by rw [HZ1.out], h.2⟩))); rintro v7 hC; subst hC; (try simp only [Act.put, zF, zG, zH]))
    (refine TG.v0 (v := ?v8) (by simp only [zA, zB, zC]; rfl) rfl ?hw8 (fun w1 => ?hy8) ?hn8; (case hw8 => rfl); (case hy8 => (go_simp; (try with_reducible rfl))); (try simp only [Act.put, zF, zG, zH]))
    (refine TG.v0 (v := ?v9) (by simp only [zA, zB, zC]; rfl) rfl ?hw9 (fun w1 => ?hy9) ?hn9; (case hw9 => rfl); (case hy9 => (go_simp; (try with_reducible rfl))); (try simp only [Act.put, zF, zG, zH]))
    (refine TG.v0 (v := ?v10) (by simp only [zA, zB, zC]; rfl) rfl ?hw10 (fun w1 => ?hy10) ?hn10; (case hw10 => rfl); (case hy10 => (go_simp; (try with_reducible rfl))); (try simp only [Act.put, zF, zG, zH]))
    (refine TG.v0 (v := ?v11) (by simp only [zA, zB, zC]; rfl) rfl ?hw11 (fun w1 => ?hy11) ?hn11; (case hw11 => rfl); (case hy11 => (go_simp; (try with_reducible rfl))); (try simp only [Act.put, zF, zG, zH]))
    (refine TG.load (v := ?v12) (p := ?p12) (by simp only [zA, zB, zC]; rfl) rfl ?hw12 rfl ?hx12 (fun wq hSq => ?hy12) ?hn12; (case hw12 => rfl); (case hx12 => (simp only [Act.eval, zD, zA, zB, zC, zE]; (try rfl))); (case hy12 => (have ktq := hSq.at kt (by intro hT; first | exact hT | exact absurd hT (by assumption) | omega | (simp only at hT; omega)); go_simp; (try with_reducible rfl))); (try simp only [Act.put, zF, zG, zH]))
    (refine TG.v0 (v := ?v13) (by simp only [zA, zB, zC]; rfl) rfl ?hw13 (fun w1 => ?hy13) ?hn13; (case hw13 => rfl); (case hy13 => (go_simp; (try with_reducible rfl))); (try simp only [Act.put, zF, zG, zH]))
    refine TG.nil (fun w1 ⟨TR, hr⟩ => ?_)
    replace kt := hr.mod.at kt (by intro hT; first | exact hT | exact absurd hT (by assumption) | omega | (simp only at hT; omega))
    have kp25 := hr.box p25 _ (by first | exact Bx.set_same _ _ _ | (simp only [Bx.set_same]; rfl)); dsimp only [Value.cells] at kp25; obtain ⟨gp25, nTp25, kp25⟩ := kp25
    clear gK
    have m1 := hr.mod
    clear hr
    go_wp2_with fail
    go_ret
    have hx : would ⟨Lb, La, Ls⟩ b s (ofK l) c ws sp = 24 := by
      unfold would
      rw [if_pos (by rw [HZ1.out]; exact of_decide_eq_true HD.out)]
    exact ⟨by rw [hx]; rfl, m1⟩
  | false =>
    obtain ⟨d1, d2⟩ := lt_dec hd1
    have HD := Lib.hid hd1
    clear hd1
    go_upto_region 3 with fail
    have Lkt := lt_size kt
    have Lkm := lt_size km
    refine wp_gpass (T0 := fun _ => False) (K := fun _ _ => True) (κ := fun i => [0, 0, 0, 0, 0, 3, 6, 0, 0, 0, 0, 0, 0].getD i 0) (υ := fun i => [[], [], [], [], [], [], [25], [], [], [], [], [], []].getD i []) [0, 1, 2, 3, 4, 5, 6, 7, 8, 9, 10, 11, 12] (by kernel_rfl) (by kernel_rfl) (Good.true).cl (trivial) (fun _ h => h.elim) ?_
    have gK := Good.true
    (refine TG.v0 (v := ?v14) (by simp only [zA, zB, zC]; rfl) rfl ?hw14 (fun w1 => ?hy14) ?hn14; (case hw14 => rfl); (case hy14 => (go_simp; (try with_reducible rfl))); (try simp only [Act.put, zF, zG, zH]))
    (refine TG.v0 (v := ?v15) (by simp only [zA, zB, zC]; rfl) rfl ?hw15 (fun w1 => ?hy15) ?hn15; (case hw15 => rfl); (case hy15 => (go_simp; (try with_reducible rfl))); (try simp only [Act.put, zF, zG, zH]))
    (refine TG.v0 (v := ?v16) (by simp only [zA, zB, zC]; rfl) rfl ?hw16 (fun w1 => ?hy16) ?hn16; (case hw16 => rfl); (case hy16 => (go_simp; (try with_reducible rfl))); (try simp only [Act.put, zF, zG, zH]))
    (refine TG.load (v := ?v17) (p := ?p17) (by simp only [zA, zB, zC]; rfl) rfl ?hw17 rfl ?hx17 (fun wq hSq => ?hy17) ?hn17; (case hw17 => rfl); (case hx17 => (simp only [Act.eval, zD, zA, zB, zC, zE]; (try rfl))); (case hy17 => (have ktq := hSq.at kt (by intro hT; first | exact hT | exact absurd hT (by assumption) | omega | (simp only at hT; omega)); have kmq := hSq.at km (by intro hT; first | exact hT | exact absurd hT (by assumption) | omega | (simp only at hT; omega)); go_simp; (try with_reducible rfl))); (try simp only [Act.put, zF, zG, zH]))
    (refine TG.v0 (v := ?v18) (by simp only [zA, zB, zC]; rfl) rfl ?hw18 (fun w1 => ?hy18) ?hn18; (case hw18 => rfl); (case hy18 => (go_simp; (try with_reducible rfl))); (try simp only [Act.put, zF, zG, zH]))
    (refine TG.bslice (by simp only [zA, zB, zC]; rfl) rfl ?hw19 rfl rfl ?hx19 (bs64 b c) (fun p25 hp25 _ => ?hn19); (case hw19 => rfl); (case hx19 => (simp only [List.map_toArray, List.map_cons, List.map_nil, Act.eval, zD, zA, zB, zC, zE]; (try rfl))); (try simp only [Act.put, zF, zG, zH]))
    (refine TG.callN (f := ?f20) (args := ?r20) (fun v => v = u64v z1) gK (by simp only [zA, zB, zC]; rfl) rfl ?hw20 (fun w1 => ?hy20) (fun T wq kq ltq hSq ub => ?hsp20) ?hn20; (case hw20 => rfl); (case hy20 => (go_simp; (first | with_reducible rfl | (constructor <;> with_reducible rfl)))); (case hsp20 => (have ktq := hSq.at kt (by intro hT; first | exact hT | exact absurd hT (by assumption) | omega | (simp only at hT; omega)); have kmq := hSq.at km (by intro hT; first | exact hT | exact absurd hT (by assumption) | omega | (simp only at hT; omega)); have kp25 := ub.box (p := p25) (by first | exact Bx.set_same _ _ _ | (simp only [Bx.set_same]; rfl)) (by first | decide | exact List.mem_singleton.2 rfl | simp); dsimp only [Value.cells] at kp25; have nUp25 := (ub p25 _ (by first | exact Bx.set_same _ _ _ | (simp only [Bx.set_same]; rfl)) (by first | decide | exact List.mem_singleton.2 rfl | simp)).1; exact (tsum_c p25 b c wq kp25).mono (fun e w' h => ⟨_, h.1, by rw [HZ1.out], h.2⟩))); rintro v20 hC; subst hC; (try simp only [Act.put, zF, zG, zH]))
    (refine TG.v0 (v := ?v21) (by simp only [zA, zB, zC]; rfl) rfl ?hw21 (fun w1 => ?hy21) ?hn21; (case hw21 => rfl); (case hy21 => (go_simp; (try with_reducible rfl))); (try simp only [Act.put, zF, zG, zH]))
    (refine TG.v0 (v := ?v22) (by simp only [zA, zB, zC]; rfl) rfl ?hw22 (fun w1 => ?hy22) ?hn22; (case hw22 => rfl); (case hy22 => (go_simp; (try with_reducible rfl))); (try simp only [Act.put, zF, zG, zH]))
    (refine TG.v0 (v := ?v23) (by simp only [zA, zB, zC]; rfl) rfl ?hw23 (fun w1 => ?hy23) ?hn23; (case hw23 => rfl); (case hy23 => (go_simp; (try with_reducible rfl))); (try simp only [Act.put, zF, zG, zH]))
    (refine TG.v0 (v := ?v24) (by simp only [zA, zB, zC]; rfl) rfl ?hw24 (fun w1 => ?hy24) ?hn24; (case hw24 => rfl); (case hy24 => (go_simp; (try with_reducible rfl))); (try simp only [Act.put, zF, zG, zH]))
    (refine TG.load (v := ?v25) (p := ?p25) (by simp only [zA, zB, zC]; rfl) rfl ?hw25 rfl ?hx25 (fun wq hSq => ?hy25) ?hn25; (case hw25 => rfl); (case hx25 => (simp only [Act.eval, zD, zA, zB, zC, zE]; (try rfl))); (case hy25 => (have ktq := hSq.at kt (by intro hT; first | exact hT | exact absurd hT (by assumption) | omega | (simp only at hT; omega)); have kmq := hSq.at km (by intro hT; first | exact hT | exact absurd hT (by assumption) | omega | (simp only at hT; omega)); go_simp; (try with_reducible rfl))); (try simp only [Act.put, zF, zG, zH]))
    (refine TG.v0 (v := ?v26) (by simp only [zA, zB, zC]; rfl) rfl ?hw26 (fun w1 => ?hy26) ?hn26; (case hw26 => rfl); (case hy26 => (go_simp; (try with_reducible rfl))); (try simp only [Act.put, zF, zG, zH]))
    refine TG.nil (fun w1 ⟨TR, hr⟩ => ?_)
    replace kt := hr.mod.at kt (by intro hT; first | exact hT | exact absurd hT (by assumption) | omega | (simp only at hT; omega))
    replace km := hr.mod.at km (by intro hT; first | exact hT | exact absurd hT (by assumption) | omega | (simp only at hT; omega))
    have kp25 := hr.box p25 _ (by first | exact Bx.set_same _ _ _ | (simp only [Bx.set_same]; rfl)); dsimp only [Value.cells] at kp25; obtain ⟨gp25, nTp25, kp25⟩ := kp25
    clear gK
    have m1 := hr.mod
    clear hr kp25 gp25 nTp25
    clear d1 d2
    have KT := Lib.hid (And.intro kt km)
    go_wp2_with fail
    go_loopw [35] (fun s35 wx => ∃ i : Nat, i ≤ ws.length ∧ s35 = .int .i64 (i : Int) ∧ Hid ((ws.take i).any (fun k => decide (La < sat (ofK l k) c)) = false) ∧ Mod (fun _ => False) w1 wx) (fun s35 _ => ws.length - (intOf s35).toNat)
    case atStart => exact ⟨0, Nat.zero_le _, rfl, Lib.hid (by simp), Mod.refl _ _⟩
    case round =>
      clear kt km
      obtain ⟨i, hi, rfl, HA, hm⟩ := hrel
      have kt := hm.at0 KT.out.1
      have km := hm.at0 KT.out.2
      by_cases hlt : i < ws.length
      · have hd := decide_eq_true hlt
        obtain ⟨k, hk⟩ : ∃ k, ws[i]? = some k := ⟨_, List.getElem?_eq_getElem hlt⟩
        obtain ⟨g, o, C, U, fr, rfl, kg, he, hle⟩ := key_at (HW.out.mod0 (m1.then0 hm)) hk
        have HK := Lib.hid hk
        clear hk
        go_upto_region 7 with fail
        have Lkg := lt_size kg
        have Lkt := lt_size kt
        have Lkm := lt_size km
        refine wp_pass0 (C := fun _ _ _ => False) (κ := fun i => [0, 1, 3, 4].getD i 0) [0, 1, 2, 3] (by kernel_rfl) (by kernel_rfl) (fun _ _ d _ _ h => by cases d <;> first | exact h | exact absurd h (hP _ _ _)) ?_
        (refine TD.val0 (v := ?v27) (by simp only [zA, zB, zC]; rfl) rfl ?hw27 (fun w1 => ?hy27) ?hn27; (case hw27 => rfl); (case hy27 => (go_simp; (try with_reducible rfl))); (try simp only [Act.put, zF, zG, zH]))
        (refine TD.load (v := ?v28) (p := ?p28) (Mod.refl _ _) (by simp only [zA, zB, zC]; rfl) rfl ?hw28 rfl ?hx28 (fun wq hSq => ?hy28) ?hn28; (case hw28 => rfl); (case hx28 => (simp only [Act.eval, zD, zA, zB, zC, zE]; (try rfl))); (case hy28 => (have kgq := hSq.at kg (fun h => h); have ktq := hSq.at kt (fun h => h); have kmq := hSq.at km (fun h => h); go_simp; (try with_reducible rfl))); (try simp only [Act.put, zF, zG, zH]))
        (refine TD.allocB (by simp only [zA, zB, zC]; rfl) rfl ?hw29 rfl rfl alKey (fun p10 hp10 => ?hn29); (case hw29 => rfl); (try simp only [Act.put, zF, zG, zH]))
        (refine TD.storeB (d := ?d30) (T := ?T30) (y := ?y30) (p := ?p30) (b := ?b30) (v := ?v30) (by simp only [zA, zB, zC]; rfl) rfl ?hw30 ?hd30 ?hop30 ?hev30 ?hx30 ?hb30 ?htag30 (fun w1 hb1 => ?hy30) ?hn30; (case hw30 => rfl); (case hd30 => rfl); (case hop30 => rfl); (case hev30 => (simp only [Act.eval, zD, zA, zB, zC, zE]; (try rfl))); (case hx30 => (simp only [Act.eval, zD, zA, zB, zC, zE]; (try rfl))); (case hb30 => first | exact Bx.set_same _ _ _ | (simp only [Bx.set_same]; rfl)); (case hy30 => (go_simp; (try first | with_reducible rfl | (rw [setCell_blk hb1]; rfl)))); (try simp only [Act.put, zF, zG, zH]))
        refine TD.nil (fun w3 hr => ?_)
        replace kg := hr.mod.at kg (fun h => h)
        replace kt := hr.mod.at kt (fun h => h)
        replace km := hr.mod.at km (fun h => h)
        have kp10 := hr.box p10 _ (by first | exact Bx.set_same _ _ _ | (simp only [Bx.set_same]; rfl)); dsimp only [Value.cells] at kp10; obtain ⟨gp10, kp10⟩ := kp10
        have hm3 := hm.then0 hr.mod
        clear hr kg he hle
        obtain ⟨y, hy⟩ : ∃ y, ofK l k = y := ⟨_, rfl⟩
        have hlk : ∀ wq, Mod (fun _ => False) w3 wq → (Instr.lookup 194 (.map (some m)) (.agg (kc k)) false).run Tryz.prog wq = .ok (u64v y) wq := fun wq hq => by
          have := HM.out.lookupD keyT Tryz.underlying194 zero_u64 wq (hq.at0 km) k
          rw [show ((lkp k l).getD 0) = y from hy] at this
          exact this
        obtain ⟨z2, hz2⟩ : ∃ z, sat y c = z := ⟨_, rfl⟩
        have HZ2 := Lib.hid (And.intro hz2 hy)
        clear hz2 hy
        cases hd2 : decide (La < z2) with
        | true =>
          obtain ⟨d1, d2⟩ := lt_dec hd2
          have HD2 := Lib.hid hd2
          clear hd2
          go_upto_region 8 with fail
          have Lkt := lt_size kt
          have Lkm := lt_size km
          have Lkp10 := lt_size kp10
          refine wp_gpass (T0 := fun _ => False) (K := fun _ _ => True) (κ := fun i => [0, 0, 0, 0, 0, 0, 0, 3, 6, 0, 0, 0, 0, 0, 0].getD i 0) (υ := fun i => [[], [], [], [], [], [], [], [], [46], [], [], [], [], [], []].getD i []) [0, 1, 2, 3, 4, 5, 6, 7, 8, 9, 10, 11, 12, 13, 14] (by kernel_rfl) (by kernel_rfl) (Good.true).cl (trivial) (fun _ h => h.elim) ?_
          have gK := Good.true
          (refine TG.v0 (v := ?v31) (by simp only [zA, zB, zC]; rfl) rfl ?hw31 (fun w1 => ?hy31) ?hn31; (case hw31 => rfl); (case hy31 => (go_simp; (try with_reducible rfl))); (try simp only [Act.put, zF, zG, zH]))
          (refine TG.v0 (v := ?v32) (by simp only [zA, zB, zC]; rfl) rfl ?hw32 (fun w1 => ?hy32) ?hn32; (case hw32 => rfl); (case hy32 => (go_simp; (try with_reducible rfl))); (try simp only [Act.put, zF, zG, zH]))
          (refine TG.v0 (v := ?v33) (by simp only [zA, zB, zC]; rfl) rfl ?hw33 (fun w1 => ?hy33) ?hn33; (case hw33 => rfl); (case hy33 => (go_simp; (try with_reducible rfl))); (try simp only [Act.put, zF, zG, zH]))
          (refine TG.load (v := ?v34) (p := ?p34) (by simp only [zA, zB, zC]; rfl) rfl ?hw34 rfl ?hx34 (fun wq hSq => ?hy34) ?hn34; (case hw34 => rfl); (case hx34 => (simp only [Act.eval, zD, zA, zB, zC, zE]; (try rfl))); (case hy34 => (have ktq := hSq.at kt (by intro hT; first | exact hT | exact absurd hT (by assumption) | omega | (simp only at hT; omega)); have kmq := hSq.at km (by intro hT; first | exact hT | exact absurd hT (by assumption) | omega | (simp only at hT; omega)); have kp10q := hSq.at kp10 (by intro hT; first | exact hT | exact absurd hT (by assumption) | omega | (simp only at hT; omega)); go_simp; (try with_reducible rfl))); (try simp only [Act.put, zF, zG, zH]))
          (refine TG.load (v := ?v35) (p := ?p35) (by simp only [zA, zB, zC]; rfl) rfl ?hw35 rfl ?hx35 (fun wq hSq => ?hy35) ?hn35; (case hw35 => rfl); (case hx35 => (simp only [Act.eval, zD, zA, zB, zC, zE]; (try rfl))); (case hy35 => (have ktq := hSq.at kt (by intro hT; first | exact hT | exact absurd hT (by assumption) | omega | (simp only at hT; omega)); have kmq := hSq.at km (by intro hT; first | exact hT | exact absurd hT (by assumption) | omega | (simp only at hT; omega)); have kp10q := hSq.at kp10 (by intro hT; first | exact hT | exact absurd hT (by assumption) | omega | (simp only at hT; omega)); go_simp; (try with_reducible rfl))); (try simp only [Act.put, zF, zG, zH]))
          (refine TG.lookup (v := ?v36) (p := ?p36) (q := ?q36) (by simp only [zA, zB, zC]; rfl) rfl ?hw36 rfl ?hx36 ?hz36 (fun wq hSq => ?hy36) ?hn36; (case hw36 => rfl); (case hx36 => (simp only [Act.eval, zD, zA, zB, zC, zE]; (try rfl))); (case hz36 => (simp only [Act.eval, zD, zA, zB, zC, zE]; (try rfl))); (case hy36 => (rw [hlk wq hSq]; (try with_reducible rfl))); (try simp only [Act.put, zF, zG, zH]))
          (refine TG.v0 (v := ?v37) (by simp only [zA, zB, zC]; rfl) rfl ?hw37 (fun w1 => ?hy37) ?hn37; (case hw37 => rfl); (case hy37 => (go_simp; (try with_reducible rfl))); (try simp only [Act.put, zF, zG, zH]))
          (refine TG.bslice (by simp only [zA, zB, zC]; rfl) rfl ?hw38 rfl rfl ?hx38 (bs64 y c) (fun p46 hp46 _ => ?hn38); (case hw38 => rfl); (case hx38 => (simp only [List.map_toArray, List.map_cons, List.map_nil, Act.eval, zD, zA, zB, zC, zE]; (try rfl))); (try simp only [Act.put, zF, zG, zH]))
          (refine TG.callN (f := ?f39) (args := ?r39) (fun v => v = u64v z2) gK (by simp only [zA, zB, zC]; rfl) rfl ?hw39 (fun w1 => ?hy39) (fun T wq kq ltq hSq ub => ?hsp39) ?hn39; (case hw39 => rfl); (case hy39 => (go_simp; (first | with_reducible rfl | (constructor <;> with_reducible rfl)))); (case hsp39 => (have ktq := hSq.at kt (by intro hT; first | exact hT | exact absurd hT (by assumption) | omega | (simp only at hT; omega)); have kmq := hSq.at km (by intro hT; first | exact hT | exact absurd hT (by assumption) | omega | (simp only at hT; omega)); have kp10q := hSq.at kp10 (by intro hT; first | exact hT | exact absurd hT (by assumption) | omega | (simp only at hT; omega)); have kp46 := ub.box (p := p46) (by first | exact Bx.set_same _ _ _ | (simp only [Bx.set_same]; rfl)) (by first | decide | exact List.mem_singleton.2 rfl | simp); dsimp only [Value.cells] at kp46; have nUp46 := (ub p46 _ (by first | exact Bx.set_same _ _ _ | (simp only [Bx.set_same]; rfl)) (by first | decide | exact List.mem_singleton.2 rfl | simp)).1; exact (tsum_c p46 y c wq kp46).mono (fun e w' h => ⟨_, h.1, by rw [HZ2.out.1], h.2⟩))); rintro v39 hC; subst hC; (try simp only [Act.put, zF, zG, zH]))
          (refine TG.v0 (v := ?v40) (by simp only [zA, zB, zC]; rfl) rfl ?hw40 (fun w1 => ?hy40) ?hn40; (case hw40 => rfl); (case hy40 => (go_simp; (try with_reducible rfl))); (try simp only [Act.put, zF, zG, zH]))
          (refine TG.v0 (v := ?v41) (by simp only [zA, zB, zC]; rfl) rfl ?hw41 (fun w1 => ?hy41) ?hn41; (case hw41 => rfl); (case hy41 => (go_simp; (try with_reducible rfl))); (try simp only [Act.put, zF, zG, zH]))
          (refine TG.v0 (v := ?v42) (by simp only [zA, zB, zC]; rfl) rfl ?hw42 (fun w1 => ?hy42) ?hn42; (case hw42 => rfl); (case hy42 => (go_simp; (try with_reducible rfl))); (try simp only [Act.put, zF, zG, zH]))
          (refine TG.v0 (v := ?v43) (by simp only [zA, zB, zC]; rfl) rfl ?hw43 (fun w1 => ?hy43) ?hn43; (case hw43 => rfl); (case hy43 => (go_simp; (try with_reducible rfl))); (try simp only [Act.put, zF, zG, zH]))
          (refine TG.load (v := ?v44) (p := ?p44) (by simp only [zA, zB, zC]; rfl) rfl ?hw44 rfl ?hx44 (fun wq hSq => ?hy44) ?hn44; (case hw44 => rfl); (case hx44 => (simp only [Act.eval, zD, zA, zB, zC, zE]; (try rfl))); (case hy44 => (have ktq := hSq.at kt (by intro hT; first | exact hT | exact absurd hT (by assumption) | omega | (simp only at hT; omega)); have kmq := hSq.at km (by intro hT; first | exact hT | exact absurd hT (by assumption) | omega | (simp only at hT; omega)); have kp10q := hSq.at kp10 (by intro hT; first | exact hT | exact absurd hT (by assumption) | omega | (simp only at hT; omega)); go_simp; (try with_reducible rfl))); (try simp only [Act.put, zF, zG, zH]))
          (refine TG.v0 (v := ?v45) (by simp only [zA, zB, zC]; rfl) rfl ?hw45 (fun w1 => ?hy45) ?hn45; (case hw45 => rfl); (case hy45 => (go_simp; (try with_reducible rfl))); (try simp only [Act.put, zF, zG, zH]))
          refine TG.nil (fun w4 ⟨TR, hr⟩ => ?_)
          replace kt := hr.mod.at kt (by intro hT; first | exact hT | exact absurd hT (by assumption) | omega | (simp only at hT; omega))
          replace km := hr.mod.at km (by intro hT; first | exact hT | exact absurd hT (by assumption) | omega | (simp only at hT; omega))
          replace kp10 := hr.mod.at kp10 (by intro hT; first | exact hT | exact absurd hT (by assumption) | omega | (simp only at hT; omega))
          have kp46 := hr.box p46 _ (by first | exact Bx.set_same _ _ _ | (simp only [Bx.set_same]; rfl)); dsimp only [Value.cells] at kp46; obtain ⟨gp46, nTp46, kp46⟩ := kp46
          clear gK
          have m4 := m1.then0 (hm3.then0 hr.mod)
          clear hr
          go_wp2_with fail
          go_ret
          have hx : would ⟨Lb, La, Ls⟩ b s (ofK l) c ws sp = 25 := by
            unfold would
            rw [if_neg (by rw [HZ1.out]; exact of_decide_eq_false HD.out), if_pos]
            exact List.any_eq_true.2 ⟨k, List.mem_of_getElem? HK.out, by rw [HZ2.out.2, HZ2.out.1]; exact HD2.out⟩
          exact ⟨by rw [hx]; rfl, m4⟩
        | false =>
          obtain ⟨d1, d2⟩ := lt_dec hd2
          have HA2 : Hid ((ws.take (i + 1)).any (fun k => decide (La < sat (ofK l k) c)) = false) := Lib.hid (by
            rw [any_take _ _ HK.out, HA.out, HZ2.out.2, HZ2.out.1, hd2]
            rfl)
          clear hd2
          go_upto_region 8 with fail
          have Lkt := lt_size kt
          have Lkm := lt_size km
          have Lkp10 := lt_size kp10
          refine wp_gpass (T0 := fun _ => False) (K := fun _ _ => True) (κ := fun i => [0, 0, 0, 0, 0, 0, 0, 3, 6, 0, 0, 0, 0, 0, 0].getD i 0) (υ := fun i => [[], [], [], [], [], [], [], [], [46], [], [], [], [], [], []].getD i []) [0, 1, 2, 3, 4, 5, 6, 7, 8, 9, 10, 11, 12, 13, 14] (by kernel_rfl) (by kernel_rfl) (Good.true).cl (trivial) (fun _ h => h.elim) ?_
          have gK := Good.true
          (refine TG.v0 (v := ?v46) (by simp only [zA, zB, zC]; rfl) rfl ?hw46 (fun w1 => ?hy46) ?hn46; (case hw46 => rfl); (case hy46 => (go_simp; (try with_reducible rfl))); (try simp only [Act.put, zF, zG, zH]))
          (refine TG.v0 (v := ?v47) (by simp only [zA, zB, zC]; rfl) rfl ?hw47 (fun w1 => ?hy47) ?hn47; (case hw47 => rfl); (case hy47 => (go_simp; (try with_reducible rfl))); (try simp only [Act.put, zF, zG, zH]))
          (refine TG.v0 (v := ?v48) (by simp only [zA, zB, zC]; rfl) rfl ?hw48 (fun w1 => ?hy48) ?hn48; (case hw48 => rfl); (case hy48 => (go_simp; (try with_reducible rfl))); (try simp only [Act.put, zF, zG, zH]))
          (refine TG.load (v := ?v49) (p := ?p49) (by simp only [zA, zB, zC]; rfl) rfl ?hw49 rfl ?hx49 (fun wq hSq => ?hy49) ?hn49; (case hw49 => rfl); (case hx49 => (simp only [Act.eval, zD, zA, zB, zC, zE]; (try rfl))); (case hy49 => (have ktq := hSq.at kt (by intro hT; first | exact hT | exact absurd hT (by assumption) | omega | (simp only at hT; omega)); have kmq := hSq.at km (by intro hT; first | exact hT | exact absurd hT (by assumption) | omega | (simp only at hT; omega)); have kp10q := hSq.at kp10 (by intro hT; first | exact hT | exact absurd hT (by assumption) | omega | (simp only at hT; omega)); go_simp; (try with_reducible rfl))); (try simp only [Act.put, zF, zG, zH]))
          (refine TG.load (v := ?v50) (p := ?p50) (by simp only [zA, zB, zC]; rfl) rfl ?hw50 rfl ?hx50 (fun wq hSq => ?hy50) ?hn50; (case hw50 => rfl); (case hx50 => (simp only [Act.eval, zD, zA, zB, zC, zE]; (try rfl))); (case hy50 => (have ktq := hSq.at kt (by intro hT; first | exact hT | exact absurd hT (by assumption) | omega | (simp only at hT; omega)); have kmq := hSq.at km (by intro hT; first | exact hT | exact absurd hT (by assumption) | omega | (simp only at hT; omega)); have kp10q := hSq.at kp10 (by intro hT; first | exact hT | exact absurd hT (by assumption) | omega | (simp only at hT; omega)); go_simp; (try with_reducible rfl))); (try simp only [Act.put, zF, zG, zH]))
          (refine TG.lookup (v := ?v51) (p := ?p51) (q := ?q51) (by simp only [zA, zB, zC]; rfl) rfl ?hw51 rfl ?hx51 ?hz51 (fun wq hSq => ?hy51) ?hn51; (case hw51 => rfl); (case hx51 => (simp only [Act.eval, zD, zA, zB, zC, zE]; (try rfl))); (case hz51 => (simp only [Act.eval, zD, zA, zB, zC, zE]; (try rfl))); (case hy51 => (rw [hlk wq hSq]; (try with_reducible rfl))); (try simp only [Act.put, zF, zG, zH]))
          (refine TG.v0 (v := ?v52) (by simp only [zA, zB, zC]; rfl) rfl ?hw52 (fun w1 => ?hy52) ?hn52; (case hw52 => rfl); (case hy52 => (go_simp; (try with_reducible rfl))); (try simp only [Act.put, zF, zG, zH]))
          (refine TG.bslice (by simp only [zA, zB, zC]; rfl) rfl ?hw53 rfl rfl ?hx53 (bs64 y c) (fun p46 hp46 _ => ?hn53); (case hw53 => rfl); (case hx53 => (simp only [List.map_toArray, List.map_cons, List.map_nil, Act.eval, zD, zA, zB, zC, zE]; (try rfl))); (try simp only [Act.put, zF, zG, zH]))
          (refine TG.callN (f := ?f54) (args := ?r54) (fun v => v = u64v z2) gK (by simp only [zA, zB, zC]; rfl) rfl ?hw54 (fun w1 => ?hy54) (fun T wq kq ltq hSq ub => ?hsp54) ?hn54; (case hw54 => rfl); (case hy54 => (go_simp; (first | with_reducible rfl | (constructor <;> with_reducible rfl)))); (case hsp54 => (have ktq := hSq.at kt (by intro hT; first | exact hT | exact absurd hT (by assumption) | omega | (simp only at hT; omega)); have kmq := hSq.at km (by intro hT; first | exact hT | exact absurd hT (by assumption) | omega | (simp only at hT; omega)); have kp10q := hSq.at kp10 (by intro hT; first | exact hT | exact absurd hT (by assumption) | omega | (simp only at hT; omega)); have kp46 := ub.box (p := p46) (by first | exact Bx.set_same _ _ _ | (simp only [Bx.set_same]; rfl)) (by first | decide | exact List.mem_singleton.2 rfl | simp); dsimp only [Value.cells] at kp46; have nUp46 := (ub p46 _ (by first | exact Bx.set_same _ _ _ | (simp only [Bx.set_same]; rfl)) (by first | decide | exact List.mem_singleton.2 rfl | simp)).1; exact (tsum_c p46 y c wq kp46).mono (fun e w' h => ⟨_, h.1, by rw [HZ2.out.1], h.2⟩))); rintro v54 hC; subst hC; (try simp only [Act.put, zF, zG, zH]))
          (refine TG.v0 (v := ?v55) (by simp only [zA, zB, zC]; rfl) rfl ?hw55 (fun w1 => ?hy55) ?hn55; (case hw55 => rfl); (case hy55 => (go_simp; (try with_reducible rfl))); (try simp only [Act.put, zF, zG, zH]))
          (refine TG.v0 (v := ?v56) (by simp only [zA, zB, zC]; rfl) rfl ?hw56 (fun w1 => ?hy56) ?hn56; (case hw56 => rfl); (case hy56 => (go_simp; (try with_reducible rfl))); (try simp only [Act.put, zF, zG, zH]))
          (refine TG.v0 (v := ?v57) (by simp only [zA, zB, zC]; rfl) rfl ?hw57 (fun w1 => ?hy57) ?hn57; (case hw57 => rfl); (case hy57 => (go_simp; (try with_reducible rfl))); (try simp only [Act.put, zF, zG, zH]))
          (refine TG.v0 (v := ?v58) (by simp only [zA, zB, zC]; rfl) rfl ?hw58 (fun w1 => ?hy58) ?hn58; (case hw58 => rfl); (case hy58 => (go_simp; (try with_reducible rfl))); (try simp only [Act.put, zF, zG, zH]))
          (refine TG.load (v := ?v59) (p := ?p59) (by simp only [zA, zB, zC]; rfl) rfl ?hw59 rfl ?hx59 (fun wq hSq => ?hy59) ?hn59; (case hw59 => rfl); (case hx59 => (simp only [Act.eval, zD, zA, zB, zC, zE]; (try rfl))); (case hy59 => (have ktq := hSq.at kt (by intro hT; first | exact hT | exact absurd hT (by assumption) | omega | (simp only at hT; omega)); have kmq := hSq.at km (by intro hT; first | exact hT | exact absurd hT (by assumption) | omega | (simp only at hT; omega)); have kp10q := hSq.at kp10 (by intro hT; first | exact hT | exact absurd hT (by assumption) | omega | (simp only at hT; omega)); go_simp; (try with_reducible rfl))); (try simp only [Act.put, zF, zG, zH]))
          (refine TG.v0 (v := ?v60) (by simp only [zA, zB, zC]; rfl) rfl ?hw60 (fun w1 => ?hy60) ?hn60; (case hw60 => rfl); (case hy60 => (go_simp; (try with_reducible rfl))); (try simp only [Act.put, zF, zG, zH]))
          refine TG.nil (fun w4 ⟨TR, hr⟩ => ?_)
          replace kt := hr.mod.at kt (by intro hT; first | exact hT | exact absurd hT (by assumption) | omega | (simp only at hT; omega))
          replace km := hr.mod.at km (by intro hT; first | exact hT | exact absurd hT (by assumption) | omega | (simp only at hT; omega))
          replace kp10 := hr.mod.at kp10 (by intro hT; first | exact hT | exact absurd hT (by assumption) | omega | (simp only at hT; omega))
          have kp46 := hr.box p46 _ (by first | exact Bx.set_same _ _ _ | (simp only [Bx.set_same]; rfl)); dsimp only [Value.cells] at kp46; obtain ⟨gp46, nTp46, kp46⟩ := kp46
          clear gK
          have hm4 := hm3.then0 hr.mod
          clear hr
          go_wp2_with fail
          go_roundw
          case rel => exact ⟨i + 1, by omega, by go_num, HA2, hm4⟩
          case measure => simp [intOf]; omega
      · have hd := decide_eq_false hlt
        have HA2 : Hid (ws.any (fun k => decide (La < sat (ofK l k) c)) = false) := Lib.hid (by
          have := HA.out
          rw [List.take_of_length_le (by omega)] at this
          exact this)
        obtain ⟨z3, hz3⟩ : ∃ z, sat s sp = z := ⟨_, rfl⟩
        have HZ3 := Lib.hid hz3
        clear hz3
        cases hd3 : decide (Ls < z3) with
        | true =>
          obtain ⟨d1, d2⟩ := lt_dec hd3
          have HD3 := Lib.hid hd3
          clear hd3
          go_upto_region 11 with fail
          have Lkt := lt_size kt
          refine wp_gpass (T0 := fun _ => False) (K := fun _ _ => True) (κ := fun i => [0, 0, 0, 0, 0, 3, 6, 0, 0, 0, 0, 0, 0].getD i 0) (υ := fun i => [[], [], [], [], [], [], [60], [], [], [], [], [], []].getD i []) [0, 1, 2, 3, 4, 5, 6, 7, 8, 9, 10, 11, 12] (by kernel_rfl) (by kernel_rfl) (Good.true).cl (trivial) (fun _ h => h.elim) ?_
          have gK := Good.true
          (refine TG.v0 (v := ?v61) (by simp only [zA, zB, zC]; rfl) rfl ?hw61 (fun w1 => ?hy61) ?hn61; (case hw61 => rfl); (case hy61 => (go_simp; (try with_reducible rfl))); (try simp only [Act.put, zF, zG, zH]))
          (refine TG.v0 (v := ?v62) (by simp only [zA, zB, zC]; rfl) rfl ?hw62 (fun w1 => ?hy62) ?hn62; (case hw62 => rfl); (case hy62 => (go_simp; (try with_reducible rfl))); (try simp only [Act.put, zF, zG, zH]))
          (refine TG.v0 (v := ?v63) (by simp only [zA, zB, zC]; rfl) rfl ?hw63 (fun w1 => ?hy63) ?hn63; (case hw63 => rfl); (case hy63 => (go_simp; (try with_reducible rfl))); (try simp only [Act.put, zF, zG, zH]))
          (refine TG.load (v := ?v64) (p := ?p64) (by simp only [zA, zB, zC]; rfl) rfl ?hw64 rfl ?hx64 (fun wq hSq => ?hy64) ?hn64; (case hw64 => rfl); (case hx64 => (simp only [Act.eval, zD, zA, zB, zC, zE]; (try rfl))); (case hy64 => (have ktq := hSq.at kt (by intro hT; first | exact hT | exact absurd hT (by assumption) | omega | (simp only at hT; omega)); go_simp; (try with_reducible rfl))); (try simp only [Act.put, zF, zG, zH]))
          (refine TG.v0 (v := ?v65) (by simp only [zA, zB, zC]; rfl) rfl ?hw65 (fun w1 => ?hy65) ?hn65; (case hw65 => rfl); (case hy65 => (go_simp; (try with_reducible rfl))); (try simp only [Act.put, zF, zG, zH]))
          (refine TG.bslice (by simp only [zA, zB, zC]; rfl) rfl ?hw66 rfl rfl ?hx66 (bs64 s sp) (fun p60 hp60 _ => ?hn66); (case hw66 => rfl); (case hx66 => (simp only [List.map_toArray, List.map_cons, List.map_nil, Act.eval, zD, zA, zB, zC, zE]; (try rfl))); (try simp only [Act.put, zF, zG, zH]))
          (refine TG.callN (f := ?f67) (args := ?r67) (fun v => v = u64v z3) gK (by simp only [zA, zB, zC]; rfl) rfl ?hw67 (fun w1 => ?hy67) (fun T wq kq ltq hSq ub => ?hsp67) ?hn67; (case hw67 => rfl); (case hy67 => (go_simp; (first | with_reducible rfl | (constructor <;> with_reducible rfl)))); (case hsp67 => (have ktq := hSq.at kt (by intro hT; first | exact hT | exact absurd hT (by assumption) | omega | (simp only at hT; omega)); have kp60 := ub.box (p := p60) (by first | exact Bx.set_same _ _ _ | (simp only [Bx.set_same]; rfl)) (by first | decide | exact List.mem_singleton.2 rfl | simp); dsimp only [Value.cells] at kp60; have nUp60 := (ub p60 _ (by first | exact Bx.set_same _ _ _ | (simp only [Bx.set_same]; rfl)) (by first | decide | exact List.mem_singleton.2 rfl | simp)).1; exact (tsum_c p60 s sp wq kp60).mono (fun e w' h => ⟨_, h.1, by rw [HZ3.out], h.2⟩))); rintro v67 hC; subst hC; (try simp only [Act.put, zF, zG, zH]))
          (refine TG.v0 (v := ?v68) (by simp only [zA, zB, zC]; rfl) rfl ?hw68 (fun w1 => ?hy68) ?hn68; (case hw68 => rfl); (case hy68 => (go_simp; (try with_reducible rfl))); (try simp only [Act.put, zF, zG, zH]))
          (refine TG.v0 (v := ?v69) (by simp only [zA, zB, zC]; rfl) rfl ?hw69 (fun w1 => ?hy69) ?hn69; (case hw69 => rfl); (case hy69 => (go_simp; (try with_reducible rfl))); (try simp only [Act.put, zF, zG, zH]))
          (refine TG.v0 (v := ?v70) (by simp only [zA, zB, zC]; rfl) rfl ?hw70 (fun w1 => ?hy70) ?hn70; (case hw70 => rfl); (case hy70 => (go_simp; (try with_reducible rfl))); (try simp only [Act.put, zF, zG, zH]))
          (refine TG.v0 (v := ?v71) (by simp only [zA, zB, zC]; rfl) rfl ?hw71 (fun w1 => ?hy71) ?hn71; (case hw71 => rfl); (case hy71 => (go_simp; (try with_reducible rfl))); (try simp only [Act.put, zF, zG, zH]))
          (refine TG.load (v := ?v72) (p := ?p72) (by simp only [zA, zB, zC]; rfl) rfl ?hw72 rfl ?hx72 (fun wq hSq => ?hy72) ?hn72; (case hw72 => rfl); (case hx72 => (simp only [Act.eval, zD, zA, zB, zC, zE]; (try rfl))); (case hy72 => (have ktq := hSq.at kt (by intro hT; first | exact hT | exact absurd hT (by assumption) | omega | (simp only at hT; omega)); go_simp; (try with_reducible rfl))); (try simp only [Act.put, zF, zG, zH]))
          (refine TG.v0 (v := ?v73) (by simp only [zA, zB, zC]; rfl) rfl ?hw73 (fun w1 => ?hy73) ?hn73; (case hw73 => rfl); (case hy73 => (go_simp; (try with_reducible rfl))); (try simp only [Act.put, zF, zG, zH]))
          refine TG.nil (fun w4 ⟨TR, hr⟩ => ?_)
          replace kt := hr.mod.at kt (by intro hT; first | exact hT | exact absurd hT (by assumption) | omega | (simp only at hT; omega))
          have kp60 := hr.box p60 _ (by first | exact Bx.set_same _ _ _ | (simp only [Bx.set_same]; rfl)); dsimp only [Value.cells] at kp60; obtain ⟨gp60, nTp60, kp60⟩ := kp60
          clear gK
          have m4 := m1.then0 (hm.then0 hr.mod)
          clear hr
          go_wp2_with fail
          go_ret
          have hx : would ⟨Lb, La, Ls⟩ b s (ofK l) c ws sp = 26 := by
            unfold would
            rw [if_neg (by rw [HZ1.out]; exact of_decide_eq_false HD.out), if_neg (by rw [HA2.out]; simp), if_pos (by rw [HZ3.out]; exact of_decide_eq_true HD3.out)]
          exact ⟨by rw [hx]; rfl, m4⟩
        | false =>
          obtain ⟨d1, d2⟩ := lt_dec hd3
          have HD3 := Lib.hid hd3
          clear hd3
          go_upto_region 11 with fail
          have Lkt := lt_size kt
          refine wp_gpass (T0 := fun _ => False) (K := fun _ _ => True) (κ := fun i => [0, 0, 0, 0, 0, 3, 6, 0, 0, 0, 0, 0, 0].getD i 0) (υ := fun i => [[], [], [], [], [], [], [60], [], [], [], [], [], []].getD i []) [0, 1, 2, 3, 4, 5, 6, 7, 8, 9, 10, 11, 12] (by kernel_rfl) (by kernel_rfl) (Good.true).cl (trivial) (fun _ h => h.elim) ?_
          have gK := Good.true
          (refine TG.v0 (v := ?v74) (by simp only [zA, zB, zC]; rfl) rfl ?hw74 (fun w1 => ?hy74) ?hn74; (case hw74 => rfl); (case hy74 => (go_simp; (try with_reducible rfl))); (try simp only [Act.put, zF, zG, zH]))
          (refine TG.v0 (v := ?v75) (by simp only [zA, zB, zC]; rfl) rfl ?hw75 (fun w1 => ?hy75) ?hn75; (case hw75 => rfl); (case hy75 => (go_simp; (try with_reducible rfl))); (try simp only [Act.put, zF, zG, zH]))
          (refine TG.v0 (v := ?v76) (by simp only [zA, zB, zC]; rfl) rfl ?hw76 (fun w1 => ?hy76) ?hn76; (case hw76 => rfl); (case hy76 => (go_simp; (try with_reducible rfl))); (try simp only [Act.put, zF, zG, zH]))
          (refine TG.load (v := ?v77) (p := ?p77) (by simp only [zA, zB, zC]; rfl) rfl ?hw77 rfl ?hx77 (fun wq hSq => ?hy77) ?hn77; (case hw77 => rfl); (case hx77 => (simp only [Act.eval, zD, zA, zB, zC, zE]; (try rfl))); (case hy77 => (have ktq := hSq.at kt (by intro hT; first | exact hT | exact absurd hT (by assumption) | omega | (simp only at hT; omega)); go_simp; (try with_reducible rfl))); (try simp only [Act.put, zF, zG, zH]))
          (refine TG.v0 (v := ?v78) (by simp only [zA, zB, zC]; rfl) rfl ?hw78 (fun w1 => ?hy78) ?hn78; (case hw78 => rfl); (case hy78 => (go_simp; (try with_reducible rfl))); (try simp only [Act.put, zF, zG, zH]))
          (refine TG.bslice (by simp only [zA, zB, zC]; rfl) rfl ?hw79 rfl rfl ?hx79 (bs64 s sp) (fun p60 hp60 _ => ?hn79); (case hw79 => rfl); (case hx79 => (simp only [List.map_toArray, List.map_cons, List.map_nil, Act.eval, zD, zA, zB, zC, zE]; (try rfl))); (try simp only [Act.put, zF, zG, zH]))
          (refine TG.callN (f := ?f80) (args := ?r80) (fun v => v = u64v z3) gK (by simp only [zA, zB, zC]; rfl) rfl ?hw80 (fun w1 => ?hy80) (fun T wq kq ltq hSq ub => ?hsp80) ?hn80; (case hw80 => rfl); (case hy80 => (go_simp; (first | with_reducible rfl | (constructor <;> with_reducible rfl)))); (case hsp80 => (have ktq := hSq.at kt (by intro hT; first | exact hT | exact absurd hT (by assumption) | omega | (simp only at hT; omega)); have kp60 := ub.box (p := p60) (by first | exact Bx.set_same _ _ _ | (simp only [Bx.set_same]; rfl)) (by first | decide | exact List.mem_singleton.2 rfl | simp); dsimp only [Value.cells] at kp60; have nUp60 := (ub p60 _ (by first | exact Bx.set_same _ _ _ | (simp only [Bx.set_same]; rfl)) (by first | decide | exact List.mem_singleton.2 rfl | simp)).1; exact (tsum_c p60 s sp wq kp60).mono (fun e w' h => ⟨_, h.1, by rw [HZ3.out], h.2⟩))); rintro v80 hC; subst hC; (try simp only [Act.put, zF, zG, zH]))
          (refine TG.v0 (v := ?v81) (by simp only [zA, zB, zC]; rfl) rfl ?hw81 (fun w1 => ?hy81) ?hn81; (case hw81 => rfl); (case hy81 => (go_simp; (try with_reducible rfl))); (try simp only [Act.put, zF, zG, zH]))
          (refine TG.v0 (v := ?v82) (by simp only [zA, zB, zC]; rfl) rfl ?hw82 (fun w1 => ?hy82) ?hn82; (case hw82 => rfl); (case hy82 => (go_simp; (try with_reducible rfl))); (try simp only [Act.put, zF, zG, zH]))
          (refine TG.v0 (v := ?v83) (by simp only [zA, zB, zC]; rfl) rfl ?hw83 (fun w1 => ?hy83) ?hn83; (case hw83 => rfl); (case hy83 => (go_simp; (try with_reducible rfl))); (try simp only [Act.put, zF, zG, zH]))
          (refine TG.v0 (v := ?v84) (by simp only [zA, zB, zC]; rfl) rfl ?hw84 (fun w1 => ?hy84) ?hn84; (case hw84 => rfl); (case hy84 => (go_simp; (try with_reducible rfl))); (try simp only [Act.put, zF, zG, zH]))
          (refine TG.load (v := ?v85) (p := ?p85) (by simp only [zA, zB, zC]; rfl) rfl ?hw85 rfl ?hx85 (fun wq hSq => ?hy85) ?hn85; (case hw85 => rfl); (case hx85 => (simp only [Act.eval, zD, zA, zB, zC, zE]; (try rfl))); (case hy85 => (have ktq := hSq.at kt (by intro hT; first | exact hT | exact absurd hT (by assumption) | omega | (simp only at hT; omega)); go_simp; (try with_reducible rfl))); (try simp only [Act.put, zF, zG, zH]))
          (refine TG.v0 (v := ?v86) (by simp only [zA, zB, zC]; rfl) rfl ?hw86 (fun w1 => ?hy86) ?hn86; (case hw86 => rfl); (case hy86 => (go_simp; (try with_reducible rfl))); (try simp only [Act.put, zF, zG, zH]))
          refine TG.nil (fun w4 ⟨TR, hr⟩ => ?_)
          replace kt := hr.mod.at kt (by intro hT; first | exact hT | exact absurd hT (by assumption) | omega | (simp only at hT; omega))
          have kp60 := hr.box p60 _ (by first | exact Bx.set_same _ _ _ | (simp only [Bx.set_same]; rfl)); dsimp only [Value.cells] at kp60; obtain ⟨gp60, nTp60, kp60⟩ := kp60
          clear gK
          have m4 := m1.then0 (hm.then0 hr.mod)
          clear hr
          go_wp2_with fail
          go_ret
          have hx : would ⟨Lb, La, Ls⟩ b s (ofK l) c ws sp = 0 := by
            unfold would
            rw [if_neg (by rw [HZ1.out]; exact of_decide_eq_false HD.out), if_neg (by rw [HA2.out]; simp), if_neg (by rw [HZ3.out]; exact of_decide_eq_false HD3.out)]
          exact ⟨by rw [hx]; rfl, m4⟩
end Go.Proofs.YtofpnmoeimjnnaaGreat
namespace Go.Proofs.YtofpnmoeimjnnaaGreat
open Go.RowKit
open Go.ChangeMaps (setBlock)
set_option linter.unusedSimpArgs false
set_option linter.unusedVariables false
attribute [local go_sem ↓] wlKey ldKey stKey wlAcct ldAcct stAcct wlHold ldHold stHold wlHash ldHash stHash wlSig ldSig stSig wlLim ldLim stLim wlRdy ldRdy stRdy wlOut ldOut stOut wlTd ldTd stTd wlTx ldTx stTx eqKey1
attribute [local go_sem] eqMap neMap av_size av_all av_one hd_size hd_key hd_acct hd_all hd_one zKey_size zAcct_size zHold_size zHash_size zSg_size zLim_size zRdy_size zOut_size zTried_size zTx_size cell_blk frozen_blk kc_ext one_int one_bool one_ptr one_slice one_map kc_one kc_one0 kc_size sgc_size sgc_ext sgc_one0 sgc_one' rdr_size rdr_all rdr_one rdr_tx rdr_rec rdr0 rdr1 rdr6 rdr39 rdr40 rdr41 rdr0' rdr1' rdr6' rdr39' rdr40' rdr41' ocr_size ocr_all ocr_one ocr2 ocr3 ocr4 ocr5 ocr2' ocr3' ocr4' ocr5' tdr_size tdr_all tdr_one tdr_r tdr_o tdr_tx tdr_rec tdr0 tdr1 tdr41 tdr50 tdr51 tdr52 tdr53 tdr0' tdr1' tdr41' tdr50' tdr51' tdr52' tdr53' txr_size txr_all txr_one txr0 txr38 txr39 txr0' txr38' txr39' Value.cells
attribute [local go_sem] eqMapU neMapU
theorem addN_c {t m : Nat} {L : Lim} {b s : UInt64} {l : List (Key × UInt64)} (c sp : UInt64) (a : Option Addr) (ws : List Key) (cc : Nat) (w : World) (h : TrAt w t m L b s l) (hw : SlAt kc 32 w a ws) (hn : ws.length ≤ 100000) (hx : would L b s (ofK l) c ws sp ≠ 0) :
    Calls Tryz.prog 82 #[ptrV t, u64v c, .slice a ws.length cc, u64v sp] w fun e w' => e = .returned (.int .i64 (would L b s (ofK l) c ws sp : Nat)) ∧ Mod (fun _ => False) w w' := by
  have HW := Lib.hid (would_c c sp a ws cc w h hw hn)
  generalize would L b s (ofK l) c ws sp = wd at *
  have hne : ((wd : Int) != 0) = true := by rw [bne_iff_ne]; omega
  clear h hw hx
  go_enter Tryz.func82, Tryz.ntmps82
  go_wp2_with fail
  go_at_call 100
  refine HW.out.mono ?_
  rintro e w2 ⟨rfl, m2⟩
  go_wp2_with fail
  go_ret
  exact ⟨rfl, m2⟩
def adF (l : List (Key × UInt64)) (c : UInt64) : Key → UInt64 := fun k => sat (ofK l k) c
def AddPost (t m : Nat) (L : Lim) (b s : UInt64) (l : List (Key × UInt64)) (c sp : UInt64) (ws : List Key) (w w' : World) : Prop :=
  (∃ done : List (Key × UInt64), done.Perm (putAll (adF l c) ws []) ∧ TrAt w' t m L (sat b c) (sat s sp) (putL done l)) ∧ Mod (fun i => i = t ∨ i = m) w w'
set_option maxRecDepth 20000 in
set_option maxHeartbeats 3200000 in
theorem addR_c {t m : Nat} {L : Lim} {b s : UInt64} {l : List (Key × UInt64)} (c sp : UInt64) (a : Option Addr) (ws : List Key) (cc : Nat) (w : World) (h : TrAt w t m L b s l) (hw : SlAt kc 32 w a ws) (hn : ws.length ≤ 100000) (hx : would L b s (ofK l) c ws sp = 0) (ha : ∀ g o, a = some ⟨g, o, none⟩ → g ≠ t ∧ g ≠ m) :
    Calls Tryz.prog 82 #[ptrV t, u64v c, .slice a ws.length cc, u64v sp] w fun e w' => e = .returned (.int .i64 0) ∧ AddPost t m L b s l c sp ws w w' := by
  have hwd := would_c c sp a ws cc w h hw hn
  rw [hx] at hwd
  have HWD := Lib.hid hwd
  have HW := Lib.hid (And.intro hw ha)
  obtain ⟨kt, es, cl, km, M⟩ := h
  obtain ⟨Lb, La, Ls⟩ := L
  dsimp only at kt
  have HM := Lib.hid M
  have htm : t ≠ m := ne_of_obj kt km (by simp)
  have hmm := @run_makeMap Tryz.prog
  clear hw M hwd hx ha
  go_enter Tryz.func82, Tryz.ntmps82
  go_wp2_with fail
  go_at_call 100
  refine HWD.out.mono ?_
  rintro e w1 ⟨rfl, m1⟩
  replace kt := m1.at0 kt
  replace km := m1.at0 km
  obtain ⟨z1, hz1⟩ : ∃ z, sat b c = z := ⟨_, rfl⟩
  obtain ⟨z2, hz2⟩ : ∃ z, sat s sp = z := ⟨_, rfl⟩
  have HZ := Lib.hid (And.intro hz1 hz2)
  clear hz1 hz2
  go_upto_region 4 with fail
  have Lkt := lt_size kt
  have Lkm := lt_size km
  refine wp_region_any (by kernel_rfl) ?_
  change wpAny _ .any _ _ 22 _ _ _
  (refine take_first (i := 1) (v := ?v1) (by simp only [zA, zB, zC]; rfl) (by kernel_rfl) (fun _ _ d _ _ h => by cases d <;> first | exact h | exact absurd h (hP _ _ _)) ?hw1 (fun w1 => ?hy1) ?hn1; (case hw1 => rfl); (case hy1 => (go_simp; (try with_reducible rfl))); (try simp only [Act.put, zF, zG, zH]))
  refine e_anyL (T0 := fun _ => False) (K := fun _ _ => True) (κ := fun i => [0, 0, 0, 0, 0, 0, 0, 3, 6, 0, 0, 0, 0, 0, 3, 6, 0, 0, 6, 0, 0, 6].getD i 0) (υ := fun i => [[], [], [], [], [], [], [], [], [30], [], [], [], [], [], [], [37], [], [], [], [], [], []].getD i []) (fun _ _ d _ _ h => by cases d <;> first | exact h | exact absurd h (hP _ _ _)) [0, 2, 3, 4, 5, 6, 7, 8, 9, 10, 11, 12, 13, 14, 15, 16, 17] [18, 19, 20, 21] (by kernel_rfl) (Good.true).cl (rg_drew (Good.true).cl (trivial) (fun _ h => h.elim)) ?_
  have gK := Good.true
  (refine TG.v0 (v := ?v2) (by simp only [zA, zB, zC]; rfl) rfl ?hw2 (fun w1 => ?hy2) ?hn2; (case hw2 => rfl); (case hy2 => (go_simp; (try with_reducible rfl))); (try simp only [Act.put, zF, zG, zH]))
  (refine TG.v0 (v := ?v3) (by simp only [zA, zB, zC]; rfl) rfl ?hw3 (fun w1 => ?hy3) ?hn3; (case hw3 => rfl); (case hy3 => (go_simp; (try with_reducible rfl))); (try simp only [Act.put, zF, zG, zH]))
  (refine TG.v0 (v := ?v4) (by simp only [zA, zB, zC]; rfl) rfl ?hw4 (fun w1 => ?hy4) ?hn4; (case hw4 => rfl); (case hy4 => (go_simp; (try with_reducible rfl))); (try simp only [Act.put, zF, zG, zH]))
  (refine TG.v0 (v := ?v5) (by simp only [zA, zB, zC]; rfl) rfl ?hw5 (fun w1 => ?hy5) ?hn5; (case hw5 => rfl); (case hy5 => (go_simp; (try with_reducible rfl))); (try simp only [Act.put, zF, zG, zH]))
  (refine TG.load (v := ?v6) (p := ?p6) (by simp only [zA, zB, zC]; rfl) rfl ?hw6 rfl ?hx6 (fun wq hSq => ?hy6) ?hn6; (case hw6 => rfl); (case hx6 => (simp only [Act.eval, zD, zA, zB, zC, zE]; (try rfl))); (case hy6 => (have ktq := hSq.at kt (by intro hT; first | exact hT | exact absurd hT (by assumption) | omega | (simp only at hT; omega)); have kmq := hSq.at km (by intro hT; first | exact hT | exact absurd hT (by assumption) | omega | (simp only at hT; omega)); go_simp; (try with_reducible rfl))); (try simp only [Act.put, zF, zG, zH]))
  (refine TG.v0 (v := ?v7) (by simp only [zA, zB, zC]; rfl) rfl ?hw7 (fun w1 => ?hy7) ?hn7; (case hw7 => rfl); (case hy7 => (go_simp; (try with_reducible rfl))); (try simp only [Act.put, zF, zG, zH]))
  (refine TG.bslice (by simp only [zA, zB, zC]; rfl) rfl ?hw8 rfl rfl ?hx8 (bs64 b c) (fun p30 hp30 _ => ?hn8); (case hw8 => rfl); (case hx8 => (simp only [List.map_toArray, List.map_cons, List.map_nil, Act.eval, zD, zA, zB, zC, zE]; (try rfl))); (try simp only [Act.put, zF, zG, zH]))
  (refine TG.callN (f := ?f9) (args := ?r9) (fun v => v = u64v z1) gK (by simp only [zA, zB, zC]; rfl) rfl ?hw9 (fun w1 => ?hy9) (fun T wq kq ltq hSq ub => ?hsp9) ?hn9; (case hw9 => rfl); (case hy9 => (go_simp; (first | with_reducible rfl | (constructor <;> with_reducible rfl)))); (case hsp9 => (have ktq := hSq.at kt (by intro hT; first | exact hT | exact absurd hT (by assumption) | omega | (simp only at hT; omega)); have kmq := hSq.at km (by intro hT; first | exact hT | exact absurd hT (by assumption) | omega | (simp only at hT; omega)); have kp30 := ub.box (p := p30) (by first | exact Bx.set_same _ _ _ | (simp only [Bx.set_same]; rfl)) (by first | decide | exact List.mem_singleton.2 rfl | simp); dsimp only [Value.cells] at kp30; have nUp30 := (ub p30 _ (by first | exact Bx.set_same _ _ _ | (simp only [Bx.set_same]; rfl)) (by first | decide | exact List.mem_singleton.2 rfl | simp)).1; exact (tsum_c p30 b c wq kp30).mono (fun e w' h => ⟨_, h.1, by rw [HZ.out.1], h.2⟩))); rintro v9 hC; subst hC; (try simp only [Act.put, zF, zG, zH]))
  (refine TG.v0 (v := ?v10) (by simp only [zA, zB, zC]; rfl) rfl ?hw10 (fun w1 => ?hy10) ?hn10; (case hw10 => rfl); (case hy10 => (go_simp; (try with_reducible rfl))); (try simp only [Act.put, zF, zG, zH]))
  (refine TG.v0 (v := ?v11) (by simp only [zA, zB, zC]; rfl) rfl ?hw11 (fun w1 => ?hy11) ?hn11; (case hw11 => rfl); (case hy11 => (go_simp; (try with_reducible rfl))); (try simp only [Act.put, zF, zG, zH]))
  (refine TG.v0 (v := ?v12) (by simp only [zA, zB, zC]; rfl) rfl ?hw12 (fun w1 => ?hy12) ?hn12; (case hw12 => rfl); (case hy12 => (go_simp; (try with_reducible rfl))); (try simp only [Act.put, zF, zG, zH]))
  (refine TG.load (v := ?v13) (p := ?p13) (by simp only [zA, zB, zC]; rfl) rfl ?hw13 rfl ?hx13 (fun wq hSq => ?hy13) ?hn13; (case hw13 => rfl); (case hx13 => (simp only [Act.eval, zD, zA, zB, zC, zE]; (try rfl))); (case hy13 => (have ktq := hSq.at kt (by intro hT; first | exact hT | exact absurd hT (by assumption) | omega | (simp only at hT; omega)); have kmq := hSq.at km (by intro hT; first | exact hT | exact absurd hT (by assumption) | omega | (simp only at hT; omega)); go_simp; (try with_reducible rfl))); (try simp only [Act.put, zF, zG, zH]))
  (refine TG.v0 (v := ?v14) (by simp only [zA, zB, zC]; rfl) rfl ?hw14 (fun w1 => ?hy14) ?hn14; (case hw14 => rfl); (case hy14 => (go_simp; (try with_reducible rfl))); (try simp only [Act.put, zF, zG, zH]))
  (refine TG.bslice (by simp only [zA, zB, zC]; rfl) rfl ?hw15 rfl rfl ?hx15 (bs64 s sp) (fun p37 hp37 _ => ?hn15); (case hw15 => rfl); (case hx15 => (simp only [List.map_toArray, List.map_cons, List.map_nil, Act.eval, zD, zA, zB, zC, zE]; (try rfl))); (try simp only [Act.put, zF, zG, zH]))
  obtain ⟨ne_p37_p30, hp37⟩ := Bx.set_none hp37
  (refine TG.callN (f := ?f16) (args := ?r16) (fun v => v = u64v z2) gK (by simp only [zA, zB, zC]; rfl) rfl ?hw16 (fun w1 => ?hy16) (fun T wq kq ltq hSq ub => ?hsp16) ?hn16; (case hw16 => rfl); (case hy16 => (go_simp; (first | with_reducible rfl | (constructor <;> with_reducible rfl)))); (case hsp16 => (have ktq := hSq.at kt (by intro hT; first | exact hT | exact absurd hT (by assumption) | omega | (simp only at hT; omega)); have kmq := hSq.at km (by intro hT; first | exact hT | exact absurd hT (by assumption) | omega | (simp only at hT; omega)); have kp37 := ub.box (p := p37) (by first | exact Bx.set_same _ _ _ | (simp only [Bx.set_ne _ (Ne.symm ne_p37_p30), Bx.set_ne _ ne_p37_p30, Bx.set_same]; rfl)) (by first | decide | exact List.mem_singleton.2 rfl | simp); dsimp only [Value.cells] at kp37; have nUp37 := (ub p37 _ (by first | exact Bx.set_same _ _ _ | (simp only [Bx.set_ne _ (Ne.symm ne_p37_p30), Bx.set_ne _ ne_p37_p30, Bx.set_same]; rfl)) (by first | decide | exact List.mem_singleton.2 rfl | simp)).1; exact (tsum_c p37 s sp wq kp37).mono (fun e w' h => ⟨_, h.1, by rw [HZ.out.2], h.2⟩))); rintro v16 hC; subst hC; (try simp only [Act.put, zF, zG, zH]))
  (refine TG.v0 (v := ?v17) (by simp only [zA, zB, zC]; rfl) rfl ?hw17 (fun w1 => ?hy17) ?hn17; (case hw17 => rfl); (case hy17 => (go_simp; (try with_reducible rfl))); (try simp only [Act.put, zF, zG, zH]))
  (refine TG.v0 (v := ?v18) (by simp only [zA, zB, zC]; rfl) rfl ?hw18 (fun w1 => ?hy18) ?hn18; (case hw18 => rfl); (case hy18 => (go_simp; (try with_reducible rfl))); (try simp only [Act.put, zF, zG, zH]))
  refine TG.nil (fun w2 ⟨TR, hr⟩ => ?_)
  replace kt := hr.mod.at kt (by intro hT; first | exact hT | exact absurd hT (by assumption) | omega | (simp only at hT; omega))
  replace km := hr.mod.at km (by intro hT; first | exact hT | exact absurd hT (by assumption) | omega | (simp only at hT; omega))
  have kp30 := hr.box p30 _ (by first | exact Bx.set_same _ _ _ | (simp only [Bx.set_ne _ (Ne.symm ne_p37_p30), Bx.set_ne _ ne_p37_p30, Bx.set_same]; rfl)); dsimp only [Value.cells] at kp30; obtain ⟨gp30, nTp30, kp30⟩ := kp30
  have kp37 := hr.box p37 _ (by first | exact Bx.set_same _ _ _ | (simp only [Bx.set_ne _ (Ne.symm ne_p37_p30), Bx.set_ne _ ne_p37_p30, Bx.set_same]; rfl)); dsimp only [Value.cells] at kp37; obtain ⟨gp37, nTp37, kp37⟩ := kp37
  clear gK
  have m2 := m1.then0 hr.mod
  clear hr kp30 kp37 gp30 gp37 nTp30 nTp37
  refine TE.step (by simp only [zA, zB, zC]; rfl) rfl ?_
  (refine eff_store (X := ?X19) (Y := ?Y19) (w' := ?w19) (by simp only [zA, zB, zC]; rfl) ?hw19 rfl ?hx19 ?hz19 ?hy19 ?hn19; (case hw19 => rfl); (case hx19 => (simp only [Act.eval, zD, zA, zB, zC, zE]; (try rfl))); (case hz19 => (simp only [Act.eval, zD, zA, zB, zC, zE]; (try rfl))); (case hy19 => (go_simp; (try with_reducible rfl))))
  (first | refine TE.mid_set kt (fun wn kt mS => ?_) | refine TE.mid_setCell kt (fun wn kt mS => ?_))
  have km := mS.at_ne km htm.symm
  have mA := mS
  clear mS
  (refine TE.val0 (v := ?v20) (by simp only [zA, zB, zC]; rfl) ?hw20 (fun w1 => ?hy20) ?hn20; (case hw20 => rfl); (case hy20 => (go_simp; (try with_reducible rfl))); (try simp only [Act.put, zF, zG, zH]))
  (refine TE.val0 (v := ?v21) (by simp only [zA, zB, zC]; rfl) ?hw21 (fun w1 => ?hy21) ?hn21; (case hw21 => rfl); (case hy21 => (go_simp; (try with_reducible rfl))); (try simp only [Act.put, zF, zG, zH]))
  refine TE.step (by simp only [zA, zB, zC]; rfl) rfl ?_
  (refine eff_store (X := ?X22) (Y := ?Y22) (w' := ?w22) (by simp only [zA, zB, zC]; rfl) ?hw22 rfl ?hx22 ?hz22 ?hy22 ?hn22; (case hw22 => rfl); (case hx22 => (simp only [Act.eval, zD, zA, zB, zC, zE]; (try rfl))); (case hz22 => (simp only [Act.eval, zD, zA, zB, zC, zE]; (try rfl))); (case hy22 => (go_simp; (try with_reducible rfl))))
  (first | refine TE.nil_set kt (fun wn kt mS => ?_) | refine TE.nil_setCell kt (fun wn kt mS => ?_))
  replace kt : wn.heap[t]? = some (.cells #[u64v Lb, u64v La, u64v Ls, u64v z1, u64v z2, .map (some m)] 196 (0, 0)) := kt
  have km := mS.at_ne km htm.symm
  have HM2 := Lib.hid ((m2.mono (T := fun i => i = t) (fun _ _ h => h.elim)).trans (mA.trans mS))
  clear m2 mA mS
  have HLT := Lib.hid (And.intro (lt_size kt) (lt_size km))
  go_upto_region 6 with fail
  obtain ⟨w5, pm, hpm, kpm, m5, e5⟩ : ∃ w5 pm, wn.heap.size = pm ∧ w5.heap[pm]? = some (.map #[] 0) ∧ Mod (fun _ => False) wn w5 ∧ wn.alloc (.map #[] 0) = w5 := ⟨_, _, rfl, heap_alloc_new _ _, (Mod.refl _ _).alloc _, rfl⟩
  rw [e5, hpm]
  have kt := m5.at0 kt
  have km := m5.at0 km
  have hpt : pm ≠ t ∧ pm ≠ m := by have := HLT.out; exact ⟨by omega, by omega⟩
  have hpw : w.heap.size ≤ pm := by have := HM2.out.size; omega
  have HM5 := Lib.hid (HM2.out.then0 m5)
  have KT := Lib.hid (And.intro kt km)
  have KP0 : Hid (∃ es2 c2, w5.heap[pm]? = some (.map es2 c2) ∧ MapIs kv u64v es2 c2 (putAll (adF l c) (ws.take 0) [])) := Lib.hid ⟨_, _, kpm, by rw [List.take_zero]; exact MapIs.empty kv u64v⟩
  clear e5 m5 kpm hpm kt km HM2
  go_wp2_with fail
  go_loopw [46] (fun s46 wx => ∃ i : Nat, i ≤ ws.length ∧ s46 = .int .i64 (i : Int) ∧ Hid (∃ es2 c2, wx.heap[pm]? = some (.map es2 c2) ∧ MapIs kv u64v es2 c2 (putAll (adF l c) (ws.take i) [])) ∧ Mod (fun j => j = pm) w5 wx) (fun s46 _ => ws.length - (intOf s46).toNat)
  case atStart => exact ⟨0, Nat.zero_le _, rfl, KP0, Mod.refl _ _⟩
  case round =>
    obtain ⟨i, hi, rfl, HP, hm⟩ := hrel
    have kt := hm.at_ne KT.out.1 hpt.1.symm
    have km := hm.at_ne KT.out.2 hpt.2.symm
    by_cases hlt : i < ws.length
    · have hd := decide_eq_true hlt
      obtain ⟨k, hk⟩ : ∃ k, ws[i]? = some k := ⟨_, List.getElem?_eq_getElem hlt⟩
      have hsl : SlAt kc 32 wr a ws := HW.out.1.mod (HM5.out.thenB hm (.inl hpw)) (fun b o e => (HW.out.2 b o e).1)
      obtain ⟨g, o, C, U, fr, rfl, kg, he, hle⟩ := key_at hsl hk
      have HK := Lib.hid hk
      clear hk hsl
      obtain ⟨es2, c2, kpm, M2⟩ := HP.out
      have HM22 := Lib.hid M2
      clear M2
      go_upto_region 8 with fail
      have Lkg := lt_size kg
      have Lkt := lt_size kt
      have Lkm := lt_size km
      have Lkpm := lt_size kpm
      refine wp_pass0 (C := fun _ _ _ => False) (κ := fun i => [0, 1, 3, 4].getD i 0) [0, 1, 2, 3] (by kernel_rfl) (by kernel_rfl) (fun _ _ d _ _ h => by cases d <;> first | exact h | exact absurd h (hP _ _ _)) ?_
      (refine TD.val0 (v := ?v23) (by simp only [zA, zB, zC]; rfl) rfl ?hw23 (fun w1 => ?hy23) ?hn23; (case hw23 => rfl); (case hy23 => (go_simp; (try with_reducible rfl))); (try simp only [Act.put, zF, zG, zH]))
      (refine TD.load (v := ?v24) (p := ?p24) (Mod.refl _ _) (by simp only [zA, zB, zC]; rfl) rfl ?hw24 rfl ?hx24 (fun wq hSq => ?hy24) ?hn24; (case hw24 => rfl); (case hx24 => (simp only [Act.eval, zD, zA, zB, zC, zE]; (try rfl))); (case hy24 => (have kgq := hSq.at kg (fun h => h); have ktq := hSq.at kt (fun h => h); have kmq := hSq.at km (fun h => h); have kpmq := hSq.at kpm (fun h => h); go_simp; (try with_reducible rfl))); (try simp only [Act.put, zF, zG, zH]))
      (refine TD.allocB (by simp only [zA, zB, zC]; rfl) rfl ?hw25 rfl rfl alKey (fun p12 hp12 => ?hn25); (case hw25 => rfl); (try simp only [Act.put, zF, zG, zH]))
      (refine TD.storeB (d := ?d26) (T := ?T26) (y := ?y26) (p := ?p26) (b := ?b26) (v := ?v26) (by simp only [zA, zB, zC]; rfl) rfl ?hw26 ?hd26 ?hop26 ?hev26 ?hx26 ?hb26 ?htag26 (fun w1 hb1 => ?hy26) ?hn26; (case hw26 => rfl); (case hd26 => rfl); (case hop26 => rfl); (case hev26 => (simp only [Act.eval, zD, zA, zB, zC, zE]; (try rfl))); (case hx26 => (simp only [Act.eval, zD, zA, zB, zC, zE]; (try rfl))); (case hb26 => first | exact Bx.set_same _ _ _ | (simp only [Bx.set_same]; rfl)); (case hy26 => (go_simp; (try first | with_reducible rfl | (rw [setCell_blk hb1]; rfl)))); (try simp only [Act.put, zF, zG, zH]))
      refine TD.nil (fun w7 hr => ?_)
      replace kg := hr.mod.at kg (fun h => h)
      replace kt := hr.mod.at kt (fun h => h)
      replace km := hr.mod.at km (fun h => h)
      replace kpm := hr.mod.at kpm (fun h => h)
      have kp12 := hr.box p12 _ (by first | exact Bx.set_same _ _ _ | (simp only [Bx.set_same]; rfl)); dsimp only [Value.cells] at kp12; obtain ⟨gp12, kp12⟩ := kp12
      have hm7 := hm.then0 hr.mod
      clear hr kg he hle
      obtain ⟨y, hy⟩ : ∃ y, ofK l k = y := ⟨_, rfl⟩
      have hlk : ∀ wq, Mod (fun _ => False) w7 wq → (Instr.lookup 194 (.map (some m)) (.agg (kc k)) false).run Tryz.prog wq = .ok (u64v y) wq := fun wq hq => by
        have := HM.out.lookupD keyT Tryz.underlying194 zero_u64 wq (hq.at0 km) k
        rw [show ((lkp k l).getD 0) = y from hy] at this
        exact this
      obtain ⟨z3, hz3⟩ : ∃ z, sat y c = z := ⟨_, rfl⟩
      have HZ3 := Lib.hid (And.intro hz3 hy)
      have h12 : p12 ≠ pm := ne_of_obj kp12 kpm (by simp)
      clear hz3 hy
      go_upto_region 9 with fail
      have Lkt := lt_size kt
      have Lkm := lt_size km
      have Lkpm := lt_size kpm
      have Lkp12 := lt_size kp12
      refine wp_epass (T0 := fun _ => False) (K := fun _ _ => True) (κ := fun i => [0, 0, 0, 0, 0, 0, 0, 0, 0, 3, 6, 6].getD i 0) (υ := fun i => [[], [], [], [], [], [], [], [], [], [], [59], []].getD i []) [0, 1, 2, 3, 4, 5, 6, 7, 8, 9, 10] [11] (by kernel_rfl) (by kernel_rfl) (Good.true).cl (trivial) (fun _ h => h.elim) ?_
      have gK := Good.true
      (refine TG.v0 (v := ?v27) (by simp only [zA, zB, zC]; rfl) rfl ?hw27 (fun w1 => ?hy27) ?hn27; (case hw27 => rfl); (case hy27 => (go_simp; (try with_reducible rfl))); (try simp only [Act.put, zF, zG, zH]))
      (refine TG.load (v := ?v28) (p := ?p28) (by simp only [zA, zB, zC]; rfl) rfl ?hw28 rfl ?hx28 (fun wq hSq => ?hy28) ?hn28; (case hw28 => rfl); (case hx28 => (simp only [Act.eval, zD, zA, zB, zC, zE]; (try rfl))); (case hy28 => (have ktq := hSq.at kt (by intro hT; first | exact hT | exact absurd hT (by assumption) | omega | (simp only at hT; omega)); have kmq := hSq.at km (by intro hT; first | exact hT | exact absurd hT (by assumption) | omega | (simp only at hT; omega)); have kpmq := hSq.at kpm (by intro hT; first | exact hT | exact absurd hT (by assumption) | omega | (simp only at hT; omega)); have kp12q := hSq.at kp12 (by intro hT; first | exact hT | exact absurd hT (by assumption) | omega | (simp only at hT; omega)); go_simp; (try with_reducible rfl))); (try simp only [Act.put, zF, zG, zH]))
      (refine TG.v0 (v := ?v29) (by simp only [zA, zB, zC]; rfl) rfl ?hw29 (fun w1 => ?hy29) ?hn29; (case hw29 => rfl); (case hy29 => (go_simp; (try with_reducible rfl))); (try simp only [Act.put, zF, zG, zH]))
      (refine TG.v0 (v := ?v30) (by simp only [zA, zB, zC]; rfl) rfl ?hw30 (fun w1 => ?hy30) ?hn30; (case hw30 => rfl); (case hy30 => (go_simp; (try with_reducible rfl))); (try simp only [Act.put, zF, zG, zH]))
      (refine TG.v0 (v := ?v31) (by simp only [zA, zB, zC]; rfl) rfl ?hw31 (fun w1 => ?hy31) ?hn31; (case hw31 => rfl); (case hy31 => (go_simp; (try with_reducible rfl))); (try simp only [Act.put, zF, zG, zH]))
      (refine TG.load (v := ?v32) (p := ?p32) (by simp only [zA, zB, zC]; rfl) rfl ?hw32 rfl ?hx32 (fun wq hSq => ?hy32) ?hn32; (case hw32 => rfl); (case hx32 => (simp only [Act.eval, zD, zA, zB, zC, zE]; (try rfl))); (case hy32 => (have ktq := hSq.at kt (by intro hT; first | exact hT | exact absurd hT (by assumption) | omega | (simp only at hT; omega)); have kmq := hSq.at km (by intro hT; first | exact hT | exact absurd hT (by assumption) | omega | (simp only at hT; omega)); have kpmq := hSq.at kpm (by intro hT; first | exact hT | exact absurd hT (by assumption) | omega | (simp only at hT; omega)); have kp12q := hSq.at kp12 (by intro hT; first | exact hT | exact absurd hT (by assumption) | omega | (simp only at hT; omega)); go_simp; (try with_reducible rfl))); (try simp only [Act.put, zF, zG, zH]))
      (refine TG.load (v := ?v33) (p := ?p33) (by simp only [zA, zB, zC]; rfl) rfl ?hw33 rfl ?hx33 (fun wq hSq => ?hy33) ?hn33; (case hw33 => rfl); (case hx33 => (simp only [Act.eval, zD, zA, zB, zC, zE]; (try rfl))); (case hy33 => (have ktq := hSq.at kt (by intro hT; first | exact hT | exact absurd hT (by assumption) | omega | (simp only at hT; omega)); have kmq := hSq.at km (by intro hT; first | exact hT | exact absurd hT (by assumption) | omega | (simp only at hT; omega)); have kpmq := hSq.at kpm (by intro hT; first | exact hT | exact absurd hT (by assumption) | omega | (simp only at hT; omega)); have kp12q := hSq.at kp12 (by intro hT; first | exact hT | exact absurd hT (by assumption) | omega | (simp only at hT; omega)); go_simp; (try with_reducible rfl))); (try simp only [Act.put, zF, zG, zH]))
      (refine TG.lookup (v := ?v34) (p := ?p34) (q := ?q34) (by simp only [zA, zB, zC]; rfl) rfl ?hw34 rfl ?hx34 ?hz34 (fun wq hSq => ?hy34) ?hn34; (case hw34 => rfl); (case hx34 => (simp only [Act.eval, zD, zA, zB, zC, zE]; (try rfl))); (case hz34 => (simp only [Act.eval, zD, zA, zB, zC, zE]; (try rfl))); (case hy34 => (rw [hlk wq hSq]; (try with_reducible rfl))); (try simp only [Act.put, zF, zG, zH]))
      (refine TG.v0 (v := ?v35) (by simp only [zA, zB, zC]; rfl) rfl ?hw35 (fun w1 => ?hy35) ?hn35; (case hw35 => rfl); (case hy35 => (go_simp; (try with_reducible rfl))); (try simp only [Act.put, zF, zG, zH]))
      (refine TG.bslice (by simp only [zA, zB, zC]; rfl) rfl ?hw36 rfl rfl ?hx36 (bs64 y c) (fun p59 hp59 _ => ?hn36); (case hw36 => rfl); (case hx36 => (simp only [List.map_toArray, List.map_cons, List.map_nil, Act.eval, zD, zA, zB, zC, zE]; (try rfl))); (try simp only [Act.put, zF, zG, zH]))
      (refine TG.callN (f := ?f37) (args := ?r37) (fun v => v = u64v z3) gK (by simp only [zA, zB, zC]; rfl) rfl ?hw37 (fun w1 => ?hy37) (fun T wq kq ltq hSq ub => ?hsp37) ?hn37; (case hw37 => rfl); (case hy37 => (go_simp; (first | with_reducible rfl | (constructor <;> with_reducible rfl)))); (case hsp37 => (have ktq := hSq.at kt (by intro hT; first | exact hT | exact absurd hT (by assumption) | omega | (simp only at hT; omega)); have kmq := hSq.at km (by intro hT; first | exact hT | exact absurd hT (by assumption) | omega | (simp only at hT; omega)); have kpmq := hSq.at kpm (by intro hT; first | exact hT | exact absurd hT (by assumption) | omega | (simp only at hT; omega)); have kp12q := hSq.at kp12 (by intro hT; first | exact hT | exact absurd hT (by assumption) | omega | (simp only at hT; omega)); have kp59 := ub.box (p := p59) (by first | exact Bx.set_same _ _ _ | (simp only [Bx.set_same]; rfl)) (by first | decide | exact List.mem_singleton.2 rfl | simp); dsimp only [Value.cells] at kp59; have nUp59 := (ub p59 _ (by first | exact Bx.set_same _ _ _ | (simp only [Bx.set_same]; rfl)) (by first | decide | exact List.mem_singleton.2 rfl | simp)).1; exact (tsum_c p59 y c wq kp59).mono (fun e w' h => ⟨_, h.1, by rw [HZ3.out.1], h.2⟩))); rintro v37 hC; subst hC; (try simp only [Act.put, zF, zG, zH]))
      refine TG.nil (fun w8 ⟨TR, hr⟩ => ?_)
      replace kt := hr.mod.at kt (by intro hT; first | exact hT | exact absurd hT (by assumption) | omega | (simp only at hT; omega))
      replace km := hr.mod.at km (by intro hT; first | exact hT | exact absurd hT (by assumption) | omega | (simp only at hT; omega))
      replace kpm := hr.mod.at kpm (by intro hT; first | exact hT | exact absurd hT (by assumption) | omega | (simp only at hT; omega))
      replace kp12 := hr.mod.at kp12 (by intro hT; first | exact hT | exact absurd hT (by assumption) | omega | (simp only at hT; omega))
      have kp59 := hr.box p59 _ (by first | exact Bx.set_same _ _ _ | (simp only [Bx.set_same]; rfl)); dsimp only [Value.cells] at kp59; obtain ⟨gp59, nTp59, kp59⟩ := kp59
      clear gK
      have hm8 := hm7.then0 hr.mod
      obtain ⟨es3, c3, hup, M3⟩ := HM22.out.update keyT Tryz.underlying194 w8 kpm k z3
      have HM33 := Lib.hid M3
      clear hr M3 hlk
      refine TE.step (by simp only [zA, zB, zC]; rfl) rfl ?_
      (refine eff_update (X := ?X38) (Y := ?Y38) (Z := ?Z38) (w' := ?w38) (by simp only [zA, zB, zC]; rfl) ?hw38 rfl ?hx38 ?hz38 ?hv38 ?hy38 ?hn38; (case hw38 => rfl); (case hx38 => (simp only [Act.eval, zD, zA, zB, zC, zE]; (try rfl))); (case hz38 => (simp only [Act.eval, zD, zA, zB, zC, zE]; (try rfl))); (case hv38 => (simp only [Act.eval, zD, zA, zB, zC, zE]; (try rfl))); (case hy38 => exact hup))
      refine TE.nil_set kpm (fun wn kpm mS => ?_)
      have hm9 := hm8.trans mS
      have HR : Hid (MapIs kv u64v es3 c3 (putAll (adF l c) (ws.take (i + 1)) [])) := Lib.hid (by
        have h1 := HM33.out
        rw [List.take_add_one, HK.out]
        simp only [Option.toList_some]
        rw [putAll_snoc, show adF l c k = z3 by rw [← HZ3.out.1, ← HZ3.out.2]; rfl]
        exact h1)
      clear mS
      go_wp2_with fail
      go_roundw
      case rel => exact ⟨i + 1, by omega, by go_num, Lib.hid ⟨_, _, kpm, HR.out⟩, hm9⟩
      case measure => simp [intOf]; omega
    · have hd := decide_eq_false hlt
      obtain rfl : i = ws.length := by omega
      obtain ⟨es2, c2, kpm, M2⟩ := HP.out
      rw [List.take_length] at M2
      have HM22 := Lib.hid M2
      have hrg := run_range_map (P := Tryz.prog) wr 194 153 50 pm es2 c2 Tryz.underlying194 kpm
      have HMr := Lib.hid (HM5.out.thenB hm (.inl hpw))
      have HLW := Lib.hid (And.intro (lt_size kpm) (And.intro (lt_size kt) (lt_size km)))
      clear M2 hm
      go_wp2_with fail
      obtain ⟨w9, rb, hrb, kr, m9, e9⟩ : ∃ w9 rb, wr.heap.size = rb ∧ w9.heap[rb]? = some (.mapIter (some pm) c2 #[] c2) ∧ Mod (fun _ => False) wr w9 ∧ w9 = wr.alloc (.mapIter (some pm) c2 #[] c2) := ⟨_, _, rfl, heap_alloc_new _ _, (Mod.refl _ _).alloc _, rfl⟩
      rw [← e9, hrb]
      have hit := IterAt.start HM22.out kr
      have HIT := Lib.hid hit
      have KPM := Lib.hid (m9.at0 kpm)
      have KT9 := Lib.hid (And.intro (m9.at0 kt) (m9.at0 km))
      have HM9 := Lib.hid (HMr.out.then0 m9)
      have hrb2 : w.heap.size ≤ rb ∧ rb ≠ t ∧ rb ≠ m ∧ rb ≠ pm := by
        have h1 := HLW.out
        have h2 := HMr.out.size
        exact ⟨by omega, by omega, by omega, by omega⟩
      clear e9 hrb hrg kpm kr hit m9 kt km
      go_loopw [] (fun wx => ∃ (done rem : List (Key × UInt64)), Hid ((done ++ rem).Perm (putAll (adF l c) ws [])) ∧ Hid (IterAt wx rb pm kv u64v es2 c2 rem) ∧ Hid (∃ es4 c4, wx.heap[m]? = some (.map es4 c4) ∧ MapIs kv u64v es4 c4 (putL done l)) ∧ wx.heap[t]? = some (.cells #[u64v Lb, u64v La, u64v Ls, u64v z1, u64v z2, .map (some m)] 196 (0, 0)) ∧ wx.heap[pm]? = some (.map es2 c2) ∧ Mod (fun i => i = rb ∨ i = m) w9 wx) (fun wx => leftN wx rb pm)
      case atStart => exact ⟨[], putAll (adF l c) ws [], Lib.hid (by simp), HIT, Lib.hid ⟨_, _, KT9.out.2, HM.out⟩, KT9.out.1, KPM.out, Mod.refl _ _⟩
      case round =>
        obtain ⟨done, rem, HPm, HIt, HMp, kt, kpm, hm⟩ := hrel
        have hmeas := (HIt.out).leftN kpm
        have HL := Lib.hid hmeas
        clear hmeas
        rcases HIt.out.next (P := Tryz.prog) HM22.out kpm 0 with ⟨hrem, hrun⟩ | ⟨q, rem', w3, it, hperm, hrun, kr3, m3, kpm3, hent⟩
        · have HE := Lib.hid hrem
          obtain ⟨es4, c4, km, M4⟩ := HMp.out
          have HM4 := Lib.hid M4
          clear M4 hrem
          go_wp2_with fail
          go_ret
          refine ⟨rfl, ⟨done, ?_, ?_⟩, ?_⟩
          · have h1 := HPm.out
            rw [HE.out, List.append_nil] at h1
            exact h1
          · rw [HZ.out.1, HZ.out.2]
            exact ⟨kt, es4, c4, km, HM4.out⟩
          · exact (HM9.out.mono (T := fun i => i = t ∨ i = m) (fun _ _ h => .inl h)).then hm (fun j hj e => by rcases e with e | e <;> omega)
        · obtain ⟨qk, qv⟩ := q
          have HP := Lib.hid hperm
          have HE : Hid (∀ wq, Mod (fun _ => False) w3 wq → (Instr.entry (.pointer (some ⟨rb, 0, none⟩))).run Tryz.prog wq = .ok (.tuple #[.agg (kc qk), u64v qv]) wq) := Lib.hid fun wq hm => (hent wq (hm.at0 kr3) (hm.at0 kpm3)).1
          have HIE : Hid (∀ wq, Mod (fun i => i = m) w3 wq → IterAt wq rb pm kv u64v es2 c2 rem') := Lib.hid fun wq hm => (hent wq (hm.at_ne kr3 hrb2.2.2.1) (hm.at_ne kpm3 hpt.2)).2
          obtain ⟨es4, c4, km, M4⟩ := HMp.out
          have HM4 := Lib.hid M4
          replace kt := m3.at_ne kt hrb2.2.1.symm
          replace km := m3.at_ne km hrb2.2.2.1.symm
          have mm := hm.trans (m3.mono (fun _ _ h => .inl h))
          have hrun2 : (Instr.next (.pointer (some ⟨rb, 0, none⟩)) false 0).run Tryz.prog wr = .ok (.tuple #[.bool true, .agg (kc qk), u64v qv]) w3 := hrun
          clear hperm hent hm m3 hrun M4 kpm
          go_upto_region 13 with fail
          have hent2 := HE.out
          clear hrun2
          have Lkr3 := lt_size kr3
          have Lkpm3 := lt_size kpm3
          have Lkt := lt_size kt
          have Lkm := lt_size km
          refine wp_pass0 (C := fun _ _ _ => False) (κ := fun i => [1, 0, 0, 3, 4, 0].getD i 0) [0, 1, 2, 3, 4, 5] (by kernel_rfl) (by kernel_rfl) (fun _ _ d _ _ h => by cases d <;> first | exact h | exact absurd h (hP _ _ _)) ?_
          (refine TD.entry (v := ?v39) (p := ?p39) (Mod.refl _ _) (by simp only [zA, zB, zC]; rfl) rfl ?hw39 rfl ?hx39 (fun wq hSq => ?hy39) ?hn39; (case hw39 => rfl); (case hx39 => (simp only [Act.eval, zD, zA, zB, zC, zE]; (try rfl))); (case hy39 => (rw [hent2 wq hSq]; (try with_reducible rfl))); (try simp only [Act.put, zF, zG, zH]))
          (refine TD.val0 (v := ?v40) (by simp only [zA, zB, zC]; rfl) rfl ?hw40 (fun w1 => ?hy40) ?hn40; (case hw40 => rfl); (case hy40 => (go_simp; (try with_reducible rfl))); (try simp only [Act.put, zF, zG, zH]))
          (refine TD.val0 (v := ?v41) (by simp only [zA, zB, zC]; rfl) rfl ?hw41 (fun w1 => ?hy41) ?hn41; (case hw41 => rfl); (case hy41 => (go_simp; (try with_reducible rfl))); (try simp only [Act.put, zF, zG, zH]))
          (refine TD.allocB (by simp only [zA, zB, zC]; rfl) rfl ?hw42 rfl rfl alKey (fun p13 hp13 => ?hn42); (case hw42 => rfl); (try simp only [Act.put, zF, zG, zH]))
          (refine TD.storeB (d := ?d43) (T := ?T43) (y := ?y43) (p := ?p43) (b := ?b43) (v := ?v43) (by simp only [zA, zB, zC]; rfl) rfl ?hw43 ?hd43 ?hop43 ?hev43 ?hx43 ?hb43 ?htag43 (fun w1 hb1 => ?hy43) ?hn43; (case hw43 => rfl); (case hd43 => rfl); (case hop43 => rfl); (case hev43 => (simp only [Act.eval, zD, zA, zB, zC, zE]; (try rfl))); (case hx43 => (simp only [Act.eval, zD, zA, zB, zC, zE]; (try rfl))); (case hb43 => first | exact Bx.set_same _ _ _ | (simp only [Bx.set_same]; rfl)); (case hy43 => (go_simp; (try first | with_reducible rfl | (rw [setCell_blk hb1]; rfl)))); (try simp only [Act.put, zF, zG, zH]))
          (refine TD.val0 (v := ?v44) (by simp only [zA, zB, zC]; rfl) rfl ?hw44 (fun w1 => ?hy44) ?hn44; (case hw44 => rfl); (case hy44 => (go_simp; (try with_reducible rfl))); (try simp only [Act.put, zF, zG, zH]))
          refine TD.nil (fun w4 hr => ?_)
          replace kr3 := hr.mod.at kr3 (fun h => h)
          replace kpm3 := hr.mod.at kpm3 (fun h => h)
          replace kt := hr.mod.at kt (fun h => h)
          replace km := hr.mod.at km (fun h => h)
          have kp13 := hr.box p13 _ (by first | exact Bx.set_same _ _ _ | (simp only [Bx.set_same]; rfl)); dsimp only [Value.cells] at kp13; obtain ⟨gp13, kp13⟩ := kp13
          clear hent2 HE
          have HMM4 := Lib.hid (And.intro hr.mod (mm.then0 hr.mod))
          clear hr mm
          go_upto_region 14 with fail
          have Lkr3 := lt_size kr3
          have Lkpm3 := lt_size kpm3
          have Lkt := lt_size kt
          have Lkp13 := lt_size kp13
          have Lkm := lt_size km
          refine wp_pass (C := fun _ _ _ => False) (κ := fun i => [0, 0, 0, 1, 1, 0, 5].getD i 0) [0, 1, 2, 3, 4, 5, 6] (by kernel_rfl) (by kernel_rfl) (fun _ _ d _ _ h => by cases d <;> first | exact h | exact absurd h (hP _ _ _)) ?_
          (refine TD.val0 (v := ?v45) (by simp only [zA, zB, zC]; rfl) rfl ?hw45 (fun w1 => ?hy45) ?hn45; (case hw45 => rfl); (case hy45 => (go_simp; (try with_reducible rfl))); (try simp only [Act.put, zF, zG, zH]))
          (refine TD.val0 (v := ?v46) (by simp only [zA, zB, zC]; rfl) rfl ?hw46 (fun w1 => ?hy46) ?hn46; (case hw46 => rfl); (case hy46 => (go_simp; (try with_reducible rfl))); (try simp only [Act.put, zF, zG, zH]))
          (refine TD.val0 (v := ?v47) (by simp only [zA, zB, zC]; rfl) rfl ?hw47 (fun w1 => ?hy47) ?hn47; (case hw47 => rfl); (case hy47 => (go_simp; (try with_reducible rfl))); (try simp only [Act.put, zF, zG, zH]))
          (refine TD.load (v := ?v48) (p := ?p48) (Mod.refl _ _) (by simp only [zA, zB, zC]; rfl) rfl ?hw48 rfl ?hx48 (fun wq hSq => ?hy48) ?hn48; (case hw48 => rfl); (case hx48 => (simp only [Act.eval, zD, zA, zB, zC, zE]; (try rfl))); (case hy48 => (have kr3q := hSq.at kr3 (fun h => h); have kpm3q := hSq.at kpm3 (fun h => h); have ktq := hSq.at kt (fun h => h); have kp13q := hSq.at kp13 (fun h => h); have kmq := hSq.at km (fun h => h); go_simp; (try with_reducible rfl))); (try simp only [Act.put, zF, zG, zH]))
          (refine TD.load (v := ?v49) (p := ?p49) (Mod.refl _ _) (by simp only [zA, zB, zC]; rfl) rfl ?hw49 rfl ?hx49 (fun wq hSq => ?hy49) ?hn49; (case hw49 => rfl); (case hx49 => (simp only [Act.eval, zD, zA, zB, zC, zE]; (try rfl))); (case hy49 => (have kr3q := hSq.at kr3 (fun h => h); have kpm3q := hSq.at kpm3 (fun h => h); have ktq := hSq.at kt (fun h => h); have kp13q := hSq.at kp13 (fun h => h); have kmq := hSq.at km (fun h => h); go_simp; (try with_reducible rfl))); (try simp only [Act.put, zF, zG, zH]))
          (refine TD.val0 (v := ?v50) (by simp only [zA, zB, zC]; rfl) rfl ?hw50 (fun w1 => ?hy50) ?hn50; (case hw50 => rfl); (case hy50 => (go_simp; (try with_reducible rfl))); (try simp only [Act.put, zF, zG, zH]))
          refine TD.eff (by simp only [zA, zB, zC]; rfl) rfl (fun wE hr => ?_)
          replace kr3 := hr.mod.at0 kr3
          replace kpm3 := hr.mod.at0 kpm3
          replace kt := hr.mod.at0 kt
          replace kp13 := hr.mod.at0 kp13
          replace km := hr.mod.at0 km
          have mE := hr.mod
          obtain ⟨es51, cl51, hrun51, Mkm⟩ := HM4.out.update keyT Tryz.underlying194 wE km qk qv
          (refine eff_update (X := ?X51) (Y := ?Y51) (Z := ?Z51) (w' := ?w51) (by simp only [zA, zB, zC]; rfl) ?hw51 rfl ?hx51 ?hz51 ?hv51 ?hy51 ?hn51; (case hw51 => rfl); (case hx51 => (simp only [Act.eval, zD, zA, zB, zC, zE]; (try rfl))); (case hz51 => (simp only [Act.eval, zD, zA, zB, zC, zE]; (try rfl))); (case hv51 => (simp only [Act.eval, zD, zA, zB, zC, zE]; (try rfl))); (case hy51 => exact hrun51))
          (first | refine TE.nil_set km (fun w5x km mS => ?_) | refine TE.nil_setCell km (fun w5x km mS => ?_))
          (try simp only [Array.setIfInBounds, zF, zG, zH] at km)
          replace kr3 := mS.at_ne kr3 (by omega)
          replace kpm3 := mS.at_ne kpm3 (by omega)
          replace kt := mS.at_ne kt (by omega)
          replace kp13 := mS.at_ne kp13 (by omega)
          have HE5 := Lib.hid (And.intro (HIE.out _ ((HMM4.out.1.mono (T := fun i => i = m) (fun _ _ h => h.elim)).trans ((mE.mono (fun _ _ h => h.elim)).trans mS))) (And.intro ((HMM4.out.2.then0 mE).trans (mS.mono (fun _ _ h => .inr h))) Mkm))
          clear hr mE mS Mkm
          have HPL : Hid (putL (done ++ [(qk, qv)]) l = put qk qv (putL done l)) := Lib.hid (by simp [putL])
          go_wp2_with fail
          go_roundw
          case rel => exact ⟨_, _, _, _, _, _, _, _, _, _, _, _, _, ⟨done ++ [(qk, qv)], rem', Lib.hid (by
              have h1 := HPm.out
              refine List.Perm.trans ?_ h1
              rw [List.append_assoc]
              exact List.Perm.append_left _ HP.out.symm), Lib.hid HE5.out.1, Lib.hid ⟨_, _, km, by rw [HPL.out]; exact HE5.out.2.2⟩, kt, kpm3, HE5.out.2.1⟩, rfl⟩
          case measure =>
            have h1 := HL.out
            have h2 := HP.out.length_eq
            have h3 := HE5.out.1.leftN kpm3
            simp only [List.length_cons] at h2
            omega
end Go.Proofs.YtofpnmoeimjnnaaGreat
namespace Go.Proofs.YtofpnmoeimjnnaaGreat
open Go.RowKit
open Go.ChangeMaps (setBlock)
set_option linter.unusedSimpArgs false
set_option linter.unusedVariables false
attribute [local go_sem ↓] wlKey ldKey stKey wlAcct ldAcct stAcct wlHold ldHold stHold wlHash ldHash stHash wlSig ldSig stSig wlLim ldLim stLim wlRdy ldRdy stRdy wlOut ldOut stOut wlTd ldTd stTd wlTx ldTx stTx eqKey1
attribute [local go_sem] eqMap neMap av_size av_all av_one hd_size hd_key hd_acct hd_all hd_one zKey_size zAcct_size zHold_size zHash_size zSg_size zLim_size zRdy_size zOut_size zTried_size zTx_size cell_blk frozen_blk kc_ext one_int one_bool one_ptr one_slice one_map kc_one kc_one0 kc_size sgc_size sgc_ext sgc_one0 sgc_one' rdr_size rdr_all rdr_one rdr_tx rdr_rec rdr0 rdr1 rdr6 rdr39 rdr40 rdr41 rdr0' rdr1' rdr6' rdr39' rdr40' rdr41' ocr_size ocr_all ocr_one ocr2 ocr3 ocr4 ocr5 ocr2' ocr3' ocr4' ocr5' tdr_size tdr_all tdr_one tdr_r tdr_o tdr_tx tdr_rec tdr0 tdr1 tdr41 tdr50 tdr51 tdr52 tdr53 tdr0' tdr1' tdr41' tdr50' tdr51' tdr52' tdr53' txr_size txr_all txr_one txr0 txr38 txr39 txr0' txr38' txr39' Value.cells
attribute [local go_sem ↓] eqHash eqSig
attribute [local go_sem] zHash_ext zHash_one0 eqMapS neMapS
def firstS (l : List Sg) : Sg := (l[0]?).getD sig0
theorem zSg_eq : zSg = sgc sig0 := by rfl
theorem ldSigAt {w : World} {p : Nat} {k : Sg} {U : TypeId} (h : w.heap[p]? = some (.cells (sgc k) U (0, 0))) : (Instr.loadAt 66 (.pointer (some ⟨p, 0, none⟩))).run Tryz.prog w = .ok (.agg (sgc k)) w := by
  rw [ldSig, h]
  simp [sgc_size, sgc_ext]
set_option maxRecDepth 20000 in
set_option maxHeartbeats 1600000 in
theorem first_c (x : RdR) (w : World) (hs : SlAt sgc 64 w x.sg.a x.sg.l) : Calls Tryz.prog 47 #[.agg (rdr x)] w fun e w' => e = .returned (.agg (sgc (firstS x.sg.l))) ∧ Mod (fun _ => False) w w' := by
  have HS := Lib.hid hs
  clear hs
  go_enter Tryz.func47, Tryz.ntmps47
  go_upto_region 0 with fail
  refine wp_pass0 (C := fun _ _ _ => False) (κ := fun i => [3, 3].getD i 0) [0, 1] (by kernel_rfl) (by kernel_rfl) (fun _ _ d _ _ h => by cases d <;> first | exact h | exact absurd h (hP _ _ _)) ?_
  (refine TD.box (v := ?v1) (by simp only [zA, zB, zC]; rfl) rfl ?hw1 rfl rfl ?hx1 (fun p1 hp1 => ?hn1); (case hw1 => rfl); (case hx1 => (simp only [Act.eval, zD, zA, zB, zC, zE]; (try rfl))); (try simp only [Act.put, zF, zG, zH]))
  (refine TD.allocB (by simp only [zA, zB, zC]; rfl) rfl ?hw2 rfl rfl alSig (fun p2 hp2 => ?hn2); (case hw2 => rfl); (try simp only [Act.put, zF, zG, zH]))
  obtain ⟨ne_p2_p1, hp2⟩ := Bx.set_none hp2
  refine TD.nil (fun w1 hr => ?_)
  have kp1 := hr.box p1 _ (by first | exact Bx.set_same _ _ _ | (simp only [Bx.set_ne _ (Ne.symm ne_p2_p1), Bx.set_ne _ ne_p2_p1, Bx.set_same]; rfl)); dsimp only [Value.cells] at kp1; obtain ⟨gp1, kp1⟩ := kp1
  have kp2 := hr.box p2 _ (by first | exact Bx.set_same _ _ _ | (simp only [Bx.set_ne _ (Ne.symm ne_p2_p1), Bx.set_ne _ ne_p2_p1, Bx.set_same]; rfl)); dsimp only [Value.cells] at kp2; obtain ⟨gp2, kp2⟩ := kp2
  have m1 := hr.mod
  clear hr
  have h12 : p1 ≠ p2 := fun e => ne_p2_p1 e.symm
  cases hl : x.sg.l with
  | nil =>
    have HL := Lib.hid hl
    have hn0 : x.sg.l.length = 0 := by rw [hl]; rfl
    have hd : decide (x.sg.l.length > 0) = false := by rw [hn0]; rfl
    have hd2 : decide ((x.sg.l.length : Int) > 0) = false := by rw [hn0]; rfl
    have hd3 : decide (0 < x.sg.l.length) = false := by rw [hn0]; rfl
    have m4 := m1
    have hp2 : w.heap.size ≤ p2 := gp2
    clear hl hn0
    rw [zSg_eq] at kp2
    go_upto_region 3 with fail
    have Lkp2 := lt_size kp2
    refine wp_pass0 (C := fun _ _ _ => False) (κ := fun i => [1, 5].getD i 0) [0, 1] (by kernel_rfl) (by kernel_rfl) (fun _ _ d _ _ h => by cases d <;> first | exact h | exact absurd h (hP _ _ _)) ?_
    (refine TD.load (v := ?v3) (p := ?p3) (Mod.refl _ _) (by simp only [zA, zB, zC]; rfl) rfl ?hw3 rfl ?hx3 (fun wq hSq => ?hy3) ?hn3; (case hw3 => rfl); (case hx3 => (simp only [Act.eval, zD, zA, zB, zC, zE]; (try rfl))); (case hy3 => (have kp2q := hSq.at kp2 (fun h => h); exact (ldSigAt kp2q))); (try simp only [Act.put, zF, zG, zH]))
    refine TD.eff (by simp only [zA, zB, zC]; rfl) rfl (fun wE hr => ?_)
    replace kp2 := hr.mod.at0 kp2
    have mE := hr.mod
    (refine eff_store (X := ?X4) (Y := ?Y4) (w' := ?w4) (by simp only [zA, zB, zC]; rfl) ?hw4 rfl ?hx4 ?hz4 ?hy4 ?hn4; (case hw4 => rfl); (case hx4 => (simp only [Act.eval, zD, zA, zB, zC, zE]; (try rfl))); (case hz4 => (simp only [Act.eval, zD, zA, zB, zC, zE]; (try rfl))); (case hy4 => (go_simp; (try with_reducible rfl))))
    (first | refine TE.nil_set kp2 (fun w5 kp2 mS => ?_) | refine TE.nil_setCell kp2 (fun w5 kp2 mS => ?_))
    (try simp only [Array.setIfInBounds, zF, zG, zH] at kp2)
    have m5 := (m4.then ((mE.mono (T := fun i => i = p2) (fun _ _ h => h.elim)).trans mS) (fun i hi e => by omega))
    clear hr mE mS
    go_wp2_with fail
    refine bodyPost_ret (results_cell1 (v := .agg (sgc (sig0))) rfl rfl (by rw [ldSig]; simp [kp2, sgc_size, sgc_ext])) rfl ⟨?_, m5⟩
    rw [HL.out]
    rfl
  | cons s r =>
    have HL := Lib.hid hl
    have hx : x.sg.l[0]? = some s := by rw [hl]; rfl
    have hpos : 0 < x.sg.l.length := by rw [hl]; simp
    have hd : decide (x.sg.l.length > 0) = true := decide_eq_true hpos
    have hd2 : decide ((x.sg.l.length : Int) > 0) = true := decide_eq_true (by omega)
    have hd3 : decide (0 < x.sg.l.length) = true := decide_eq_true hpos
    obtain ⟨g, o, C, U, fr, ha, kg, he, hle⟩ := sig_at (HS.out.mod0 m1) hx
    have hg2 : g ≠ p2 := by
      intro e
      have h1 := SlAt.block HS.out hx
      obtain ⟨g', o', _, _, _, e2, hk, _⟩ := h1
      rw [ha] at e2
      cases e2
      have := lt_size hk
      omega
    have he2 : C.extract o (o + 64) = sgc s := by simpa using he
    have hle2 : o + 64 ≤ C.size := by omega
    clear hl hx he hle
    go_upto_region 2 with fail
    have Lkp1 := lt_size kp1
    have Lkg := lt_size kg
    have Lkp2 := lt_size kp2
    refine wp_pass0 (C := fun _ _ _ => False) (κ := fun i => [0, 0, 1, 0, 1, 5].getD i 0) [0, 1, 2, 3, 4, 5] (by kernel_rfl) (by kernel_rfl) (fun _ _ d _ _ h => by cases d <;> first | exact h | exact absurd h (hP _ _ _)) ?_
    (refine TD.val0 (v := ?v5) (by simp only [zA, zB, zC]; rfl) rfl ?hw5 (fun w1 => ?hy5) ?hn5; (case hw5 => rfl); (case hy5 => (go_simp; (try with_reducible rfl))); (try simp only [Act.put, zF, zG, zH]))
    (refine TD.val0 (v := ?v6) (by simp only [zA, zB, zC]; rfl) rfl ?hw6 (fun w1 => ?hy6) ?hn6; (case hw6 => rfl); (case hy6 => (go_simp; (try with_reducible rfl))); (try simp only [Act.put, zF, zG, zH]))
    (refine TD.load (v := ?v7) (p := ?p7) (Mod.refl _ _) (by simp only [zA, zB, zC]; rfl) rfl ?hw7 rfl ?hx7 (fun wq hSq => ?hy7) ?hn7; (case hw7 => rfl); (case hx7 => (simp only [Act.eval, zD, zA, zB, zC, zE]; (try rfl))); (case hy7 => (have kp1q := hSq.at kp1 (fun h => h); have kgq := hSq.at kg (fun h => h); have kp2q := hSq.at kp2 (fun h => h); go_simp; (try with_reducible rfl))); (try simp only [Act.put, zF, zG, zH]))
    (refine TD.val0 (v := ?v8) (by simp only [zA, zB, zC]; rfl) rfl ?hw8 (fun w1 => ?hy8) ?hn8; (case hw8 => rfl); (case hy8 => (go_simp; (try with_reducible rfl))); (try simp only [Act.put, zF, zG, zH]))
    (refine TD.load (v := ?v9) (p := ?p9) (Mod.refl _ _) (by simp only [zA, zB, zC]; rfl) rfl ?hw9 rfl ?hx9 (fun wq hSq => ?hy9) ?hn9; (case hw9 => rfl); (case hx9 => (simp only [Act.eval, zD, zA, zB, zC, zE]; (try rfl))); (case hy9 => (have kp1q := hSq.at kp1 (fun h => h); have kgq := hSq.at kg (fun h => h); have kp2q := hSq.at kp2 (fun h => h); go_simp; (try with_reducible rfl))); (try simp only [Act.put, zF, zG, zH]))
    refine TD.eff (by simp only [zA, zB, zC]; rfl) rfl (fun wE hr => ?_)
    replace kp1 := hr.mod.at0 kp1
    replace kg := hr.mod.at0 kg
    replace kp2 := hr.mod.at0 kp2
    have mE := hr.mod
    (refine eff_store (X := ?X10) (Y := ?Y10) (w' := ?w10) (by simp only [zA, zB, zC]; rfl) ?hw10 rfl ?hx10 ?hz10 ?hy10 ?hn10; (case hw10 => rfl); (case hx10 => (simp only [Act.eval, zD, zA, zB, zC, zE]; (try rfl))); (case hz10 => (simp only [Act.eval, zD, zA, zB, zC, zE]; (try rfl))); (case hy10 => (go_simp; (try with_reducible rfl))))
    (first | refine TE.nil_set kp2 (fun w4 kp2 mS => ?_) | refine TE.nil_setCell kp2 (fun w4 kp2 mS => ?_))
    (try simp only [Array.setIfInBounds, zF, zG, zH] at kp2)
    replace kp1 := mS.at_ne kp1 (by omega)
    replace kg := mS.at_ne kg (by omega)
    have hp2 : w.heap.size ≤ p2 := gp2
    have m4 := m1.then ((mE.mono (T := fun i => i = p2) (fun _ _ h => h.elim)).trans mS) (fun i hi e => by omega)
    clear hr mE mS kg he2 hle2 hd hd2 hd3
    go_upto_region 3 with fail
    have Lkp2 := lt_size kp2
    refine wp_pass0 (C := fun _ _ _ => False) (κ := fun i => [1, 5].getD i 0) [0, 1] (by kernel_rfl) (by kernel_rfl) (fun _ _ d _ _ h => by cases d <;> first | exact h | exact absurd h (hP _ _ _)) ?_
    (refine TD.load (v := ?v11) (p := ?p11) (Mod.refl _ _) (by simp only [zA, zB, zC]; rfl) rfl ?hw11 rfl ?hx11 (fun wq hSq => ?hy11) ?hn11; (case hw11 => rfl); (case hx11 => (simp only [Act.eval, zD, zA, zB, zC, zE]; (try rfl))); (case hy11 => (have kp2q := hSq.at kp2 (fun h => h); exact (ldSigAt kp2q))); (try simp only [Act.put, zF, zG, zH]))
    refine TD.eff (by simp only [zA, zB, zC]; rfl) rfl (fun wE hr => ?_)
    replace kp2 := hr.mod.at0 kp2
    have mE := hr.mod
    (refine eff_store (X := ?X12) (Y := ?Y12) (w' := ?w12) (by simp only [zA, zB, zC]; rfl) ?hw12 rfl ?hx12 ?hz12 ?hy12 ?hn12; (case hw12 => rfl); (case hx12 => (simp only [Act.eval, zD, zA, zB, zC, zE]; (try rfl))); (case hz12 => (simp only [Act.eval, zD, zA, zB, zC, zE]; (try rfl))); (case hy12 => (go_simp; (try with_reducible rfl))))
    (first | refine TE.nil_set kp2 (fun w5 kp2 mS => ?_) | refine TE.nil_setCell kp2 (fun w5 kp2 mS => ?_))
    (try simp only [Array.setIfInBounds, zF, zG, zH] at kp2)
    have m5 := (m4.then ((mE.mono (T := fun i => i = p2) (fun _ _ h => h.elim)).trans mS) (fun i hi e => by omega))
    clear hr mE mS
    go_wp2_with fail
    refine bodyPost_ret (results_cell1 (v := .agg (sgc (s))) rfl rfl (by rw [ldSig]; simp [kp2, sgc_size, sgc_ext])) rfl ⟨?_, m5⟩
    rw [HL.out]
    rfl
def frV (H : List Key) (N : List (Sg × Key)) (x : RdR) : Nat := if x.rc ∈ H then (if (lkp (firstS x.sg.l) N).isSome then 28 else 0) else 27
set_option maxRecDepth 20000 in
set_option maxHeartbeats 1600000 in
theorem fresh_c {T : Nat → Prop} {b s q n t : Nat} {e : Bool} {ea : Option Addr} {en ec : Nat} {oa : Option Addr} {on oc : Nat} {f : UInt64} {H : List Key} {N : List (Sg × Key)} (x : RdR) (w : World) (kb : w.heap[b]? = some (.cells (blkC s q n t e ea en ec oa on oc f) 125 (0, 0))) (hq : QuAt w q H) (hn : SeAt T w n N) (hs : SlAt sgc 64 w x.sg.a x.sg.l) :
    Calls Tryz.prog 79 #[ptrV b, .agg (rdr x)] w fun r w' => r = .returned (.int .i64 (frV H N x : Nat)) ∧ Mod (fun _ => False) w w' := by
  unfold blkC at kb
  have HH := Lib.hid (And.intro hq (And.intro hn hs))
  clear hq hn hs
  go_enter Tryz.func79, Tryz.ntmps79
  go_upto_region 0 with fail
  have Lkb := lt_size kb
  refine wp_pass0 (C := fun _ _ _ => False) (κ := fun i => [3, 0].getD i 0) [0, 1] (by kernel_rfl) (by kernel_rfl) (fun _ _ d _ _ h => by cases d <;> first | exact h | exact absurd h (hP _ _ _)) ?_
  (refine TD.box (v := ?v13) (by simp only [zA, zB, zC]; rfl) rfl ?hw13 rfl rfl ?hx13 (fun p3 hp3 => ?hn13); (case hw13 => rfl); (case hx13 => (simp only [Act.eval, zD, zA, zB, zC, zE]; (try rfl))); (try simp only [Act.put, zF, zG, zH]))
  (refine TD.val0 (v := ?v14) (by simp only [zA, zB, zC]; rfl) rfl ?hw14 (fun w1 => ?hy14) ?hn14; (case hw14 => rfl); (case hy14 => (go_simp; (try with_reducible rfl))); (try simp only [Act.put, zF, zG, zH]))
  refine TD.nil (fun w1 hr => ?_)
  replace kb := hr.mod.at kb (fun h => h)
  have kp3 := hr.box p3 _ (by first | exact Bx.set_same _ _ _ | (simp only [Bx.set_same]; rfl)); dsimp only [Value.cells] at kp3; obtain ⟨gp3, kp3⟩ := kp3
  have m1 := hr.mod
  clear hr
  obtain ⟨y, hy⟩ : ∃ y, decide (x.rc ∈ H) = y := ⟨_, rfl⟩
  have HY := Lib.hid hy
  clear hy
  go_upto_region 1 with fail
  have Lkb := lt_size kb
  have Lkp3 := lt_size kp3
  refine wp_gpass (T0 := fun _ => False) (K := fun _ _ => True) (κ := fun i => [0, 0, 0, 0, 0, 0, 0, 0, 6, 0, 0, 0, 0, 0].getD i 0) (υ := fun i => [[], [], [], [], [], [], [], [], [], [], [], [], [], []].getD i []) [0, 1, 2, 3, 4, 5, 6, 7, 8, 9, 10, 11, 12, 13] (by kernel_rfl) (by kernel_rfl) (Good.true).cl (trivial) (fun _ h => h.elim) ?_
  have gK := Good.true
  (refine TG.v0 (v := ?v15) (by simp only [zA, zB, zC]; rfl) rfl ?hw15 (fun w1 => ?hy15) ?hn15; (case hw15 => rfl); (case hy15 => (go_simp; (try with_reducible rfl))); (try simp only [Act.put, zF, zG, zH]))
  (refine TG.v0 (v := ?v16) (by simp only [zA, zB, zC]; rfl) rfl ?hw16 (fun w1 => ?hy16) ?hn16; (case hw16 => rfl); (case hy16 => (go_simp; (try with_reducible rfl))); (try simp only [Act.put, zF, zG, zH]))
  (refine TG.v0 (v := ?v17) (by simp only [zA, zB, zC]; rfl) rfl ?hw17 (fun w1 => ?hy17) ?hn17; (case hw17 => rfl); (case hy17 => (go_simp; (try with_reducible rfl))); (try simp only [Act.put, zF, zG, zH]))
  (refine TG.load (v := ?v18) (p := ?p18) (by simp only [zA, zB, zC]; rfl) rfl ?hw18 rfl ?hx18 (fun wq hSq => ?hy18) ?hn18; (case hw18 => rfl); (case hx18 => (simp only [Act.eval, zD, zA, zB, zC, zE]; (try rfl))); (case hy18 => (have kbq := hSq.at kb (by intro hT; first | exact hT | exact absurd hT (by assumption) | omega | (simp only at hT; omega)); have kp3q := hSq.at kp3 (by intro hT; first | exact hT | exact absurd hT (by assumption) | omega | (simp only at hT; omega)); go_simp; (try with_reducible rfl))); (try simp only [Act.put, zF, zG, zH]))
  (refine TG.v0 (v := ?v19) (by simp only [zA, zB, zC]; rfl) rfl ?hw19 (fun w1 => ?hy19) ?hn19; (case hw19 => rfl); (case hy19 => (go_simp; (try with_reducible rfl))); (try simp only [Act.put, zF, zG, zH]))
  (refine TG.v0 (v := ?v20) (by simp only [zA, zB, zC]; rfl) rfl ?hw20 (fun w1 => ?hy20) ?hn20; (case hw20 => rfl); (case hy20 => (go_simp; (try with_reducible rfl))); (try simp only [Act.put, zF, zG, zH]))
  (refine TG.v0 (v := ?v21) (by simp only [zA, zB, zC]; rfl) rfl ?hw21 (fun w1 => ?hy21) ?hn21; (case hw21 => rfl); (case hy21 => (go_simp; (try with_reducible rfl))); (try simp only [Act.put, zF, zG, zH]))
  (refine TG.load (v := ?v22) (p := ?p22) (by simp only [zA, zB, zC]; rfl) rfl ?hw22 rfl ?hx22 (fun wq hSq => ?hy22) ?hn22; (case hw22 => rfl); (case hx22 => (simp only [Act.eval, zD, zA, zB, zC, zE]; (try rfl))); (case hy22 => (have kbq := hSq.at kb (by intro hT; first | exact hT | exact absurd hT (by assumption) | omega | (simp only at hT; omega)); have kp3q := hSq.at kp3 (by intro hT; first | exact hT | exact absurd hT (by assumption) | omega | (simp only at hT; omega)); go_simp; (try with_reducible rfl))); (try simp only [Act.put, zF, zG, zH]))
  (refine TG.callN (f := ?f23) (args := ?r23) (fun v => ∃ i : Nat, v = .tuple #[.int .i64 (i : Int), .bool y]) gK (by simp only [zA, zB, zC]; rfl) rfl ?hw23 (fun w1 => ?hy23) (fun T wq kq ltq hSq ub => ?hsp23) ?hn23; (case hw23 => rfl); (case hy23 => (go_simp; (first | with_reducible rfl | (constructor <;> with_reducible rfl)))); (case hsp23 => (have kbq := hSq.at kb (by intro hT; first | exact hT | exact absurd hT (by assumption) | omega | (simp only at hT; omega)); have kp3q := hSq.at kp3 (by intro hT; first | exact hT | exact absurd hT (by assumption) | omega | (simp only at hT; omega)); exact (age_c q H x.rc wq (HH.out.1.mod0 (m1.then0 hSq))).mono (fun e w' h => by obtain ⟨i, h1, h2⟩ := h; exact ⟨_, h1, ⟨i, by rw [HY.out]⟩, h2⟩))); rintro v23 hC; (obtain ⟨i0, rfl⟩ := hC); (try simp only [Act.put, zF, zG, zH]))
  (refine TG.v0 (v := ?v24) (by simp only [zA, zB, zC]; rfl) rfl ?hw24 (fun w1 => ?hy24) ?hn24; (case hw24 => rfl); (case hy24 => (go_simp; (try with_reducible rfl))); (try simp only [Act.put, zF, zG, zH]))
  (refine TG.v0 (v := ?v25) (by simp only [zA, zB, zC]; rfl) rfl ?hw25 (fun w1 => ?hy25) ?hn25; (case hw25 => rfl); (case hy25 => (go_simp; (try with_reducible rfl))); (try simp only [Act.put, zF, zG, zH]))
  (refine TG.v0 (v := ?v26) (by simp only [zA, zB, zC]; rfl) rfl ?hw26 (fun w1 => ?hy26) ?hn26; (case hw26 => rfl); (case hy26 => (go_simp; (try with_reducible rfl))); (try simp only [Act.put, zF, zG, zH]))
  (refine TG.v0 (v := ?v27) (by simp only [zA, zB, zC]; rfl) rfl ?hw27 (fun w1 => ?hy27) ?hn27; (case hw27 => rfl); (case hy27 => (go_simp; (try with_reducible rfl))); (try simp only [Act.put, zF, zG, zH]))
  (refine TG.v0 (v := ?v28) (by simp only [zA, zB, zC]; rfl) rfl ?hw28 (fun w1 => ?hy28) ?hn28; (case hw28 => rfl); (case hy28 => (go_simp; (try with_reducible rfl))); (try simp only [Act.put, zF, zG, zH]))
  refine TG.nil (fun w2 ⟨TR, hr⟩ => ?_)
  replace kb := hr.mod.at kb (by intro hT; first | exact hT | exact absurd hT (by assumption) | omega | (simp only at hT; omega))
  replace kp3 := hr.mod.at kp3 (by intro hT; first | exact hT | exact absurd hT (by assumption) | omega | (simp only at hT; omega))
  clear gK
  have m2 := m1.then0 hr.mod
  clear hr
  cases y with
  | false =>
    go_wp2_with fail
    go_ret
    exact ⟨by rw [frV, if_neg (of_decide_eq_false HY.out)]; rfl, m2⟩
  | true =>
    obtain ⟨z, hz⟩ : ∃ z, (lkp (firstS x.sg.l) N).isSome = z := ⟨_, rfl⟩
    have HZ := Lib.hid hz
    clear hz
    go_upto_region 4 with fail
    have Lkb := lt_size kb
    have Lkp3 := lt_size kp3
    refine wp_gpass (T0 := fun _ => False) (K := fun _ _ => True) (κ := fun i => [0, 0, 0, 0, 0, 6, 6].getD i 0) (υ := fun i => [[], [], [], [], [], [], []].getD i []) [0, 1, 2, 3, 4, 5, 6] (by kernel_rfl) (by kernel_rfl) (Good.true).cl (trivial) (fun _ h => h.elim) ?_
    have gK := Good.true
    (refine TG.v0 (v := ?v29) (by simp only [zA, zB, zC]; rfl) rfl ?hw29 (fun w1 => ?hy29) ?hn29; (case hw29 => rfl); (case hy29 => (go_simp; (try with_reducible rfl))); (try simp only [Act.put, zF, zG, zH]))
    (refine TG.v0 (v := ?v30) (by simp only [zA, zB, zC]; rfl) rfl ?hw30 (fun w1 => ?hy30) ?hn30; (case hw30 => rfl); (case hy30 => (go_simp; (try with_reducible rfl))); (try simp only [Act.put, zF, zG, zH]))
    (refine TG.v0 (v := ?v31) (by simp only [zA, zB, zC]; rfl) rfl ?hw31 (fun w1 => ?hy31) ?hn31; (case hw31 => rfl); (case hy31 => (go_simp; (try with_reducible rfl))); (try simp only [Act.put, zF, zG, zH]))
    (refine TG.load (v := ?v32) (p := ?p32) (by simp only [zA, zB, zC]; rfl) rfl ?hw32 rfl ?hx32 (fun wq hSq => ?hy32) ?hn32; (case hw32 => rfl); (case hx32 => (simp only [Act.eval, zD, zA, zB, zC, zE]; (try rfl))); (case hy32 => (have kbq := hSq.at kb (by intro hT; first | exact hT | exact absurd hT (by assumption) | omega | (simp only at hT; omega)); have kp3q := hSq.at kp3 (by intro hT; first | exact hT | exact absurd hT (by assumption) | omega | (simp only at hT; omega)); go_simp; (try with_reducible rfl))); (try simp only [Act.put, zF, zG, zH]))
    (refine TG.load (v := ?v33) (p := ?p33) (by simp only [zA, zB, zC]; rfl) rfl ?hw33 rfl ?hx33 (fun wq hSq => ?hy33) ?hn33; (case hw33 => rfl); (case hx33 => (simp only [Act.eval, zD, zA, zB, zC, zE]; (try rfl))); (case hy33 => (have kbq := hSq.at kb (by intro hT; first | exact hT | exact absurd hT (by assumption) | omega | (simp only at hT; omega)); have kp3q := hSq.at kp3 (by intro hT; first | exact hT | exact absurd hT (by assumption) | omega | (simp only at hT; omega)); go_simp; (try with_reducible rfl))); (try simp only [Act.put, zF, zG, zH]))
    (refine TG.callN (f := ?f34) (args := ?r34) (fun v => v = .agg (sgc (firstS x.sg.l))) gK (by simp only [zA, zB, zC]; rfl) rfl ?hw34 (fun w1 => ?hy34) (fun T wq kq ltq hSq ub => ?hsp34) ?hn34; (case hw34 => rfl); (case hy34 => (go_simp; (first | with_reducible rfl | (constructor <;> with_reducible rfl)))); (case hsp34 => (have kbq := hSq.at kb (by intro hT; first | exact hT | exact absurd hT (by assumption) | omega | (simp only at hT; omega)); have kp3q := hSq.at kp3 (by intro hT; first | exact hT | exact absurd hT (by assumption) | omega | (simp only at hT; omega)); exact (first_c x wq (HH.out.2.2.mod0 (m2.then0 hSq))).mono (fun e w' h => ⟨_, h.1, rfl, h.2⟩))); rintro v34 hC; subst hC; (try simp only [Act.put, zF, zG, zH]))
    (refine TG.callN (f := ?f35) (args := ?r35) (fun v => v = .bool z) gK (by simp only [zA, zB, zC]; rfl) rfl ?hw35 (fun w1 => ?hy35) (fun T wq kq ltq hSq ub => ?hsp35) ?hn35; (case hw35 => rfl); (case hy35 => (go_simp; (first | with_reducible rfl | (constructor <;> with_reducible rfl)))); (case hsp35 => (have kbq := hSq.at kb (by intro hT; first | exact hT | exact absurd hT (by assumption) | omega | (simp only at hT; omega)); have kp3q := hSq.at kp3 (by intro hT; first | exact hT | exact absurd hT (by assumption) | omega | (simp only at hT; omega)); exact (shas_c n N (firstS x.sg.l) wq (HH.out.2.1.mod0 (m2.then0 hSq))).mono (fun e w' h => ⟨_, h.1, by rw [HZ.out], h.2⟩))); rintro v35 hC; subst hC; (try simp only [Act.put, zF, zG, zH]))
    refine TG.nil (fun w3 ⟨TR, hr⟩ => ?_)
    replace kb := hr.mod.at kb (by intro hT; first | exact hT | exact absurd hT (by assumption) | omega | (simp only at hT; omega))
    replace kp3 := hr.mod.at kp3 (by intro hT; first | exact hT | exact absurd hT (by assumption) | omega | (simp only at hT; omega))
    clear gK
    have m3 := m2.then0 hr.mod
    clear hr
    cases z with
    | true =>
      go_wp2_with fail
      go_ret
      exact ⟨by rw [frV, if_pos (of_decide_eq_true HY.out), if_pos HZ.out]; rfl, m3⟩
    | false =>
      go_wp2_with fail
      go_ret
      exact ⟨by rw [frV, if_pos (of_decide_eq_true HY.out), if_neg (by rw [HZ.out]; simp)]; rfl, m3⟩
end Go.Proofs.YtofpnmoeimjnnaaGreat
namespace Go.Proofs.YtofpnmoeimjnnaaGreat
open Go.RowKit
open Go.ChangeMaps (setBlock)
set_option linter.unusedSimpArgs false
set_option linter.unusedVariables false
attribute [local go_sem ↓] wlKey ldKey stKey wlAcct ldAcct stAcct wlHold ldHold stHold wlHash ldHash stHash wlSig ldSig stSig wlLim ldLim stLim wlRdy ldRdy stRdy wlOut ldOut stOut wlTd ldTd stTd wlTx ldTx stTx eqKey1
attribute [local go_sem] eqMap neMap av_size av_all av_one hd_size hd_key hd_acct hd_all hd_one zKey_size zAcct_size zHold_size zHash_size zSg_size zLim_size zRdy_size zOut_size zTried_size zTx_size cell_blk frozen_blk kc_ext one_int one_bool one_ptr one_slice one_map kc_one kc_one0 kc_size sgc_size sgc_ext sgc_one0 sgc_one' rdr_size rdr_all rdr_one rdr_tx rdr_rec rdr0 rdr1 rdr6 rdr39 rdr40 rdr41 rdr0' rdr1' rdr6' rdr39' rdr40' rdr41' ocr_size ocr_all ocr_one ocr2 ocr3 ocr4 ocr5 ocr2' ocr3' ocr4' ocr5' tdr_size tdr_all tdr_one tdr_r tdr_o tdr_tx tdr_rec tdr0 tdr1 tdr41 tdr50 tdr51 tdr52 tdr53 tdr0' tdr1' tdr41' tdr50' tdr51' tdr52' tdr53' txr_size txr_all txr_one txr0 txr38 txr39 txr0' txr38' txr39' Value.cells
def VOk (w : World) (x : TdR) : Prop := SlAt sgc 64 w x.r.sg.a x.r.sg.l ∧ SlAt rcr 34 w x.r.ro.a x.r.ro.l ∧ SlAt inr 3 w x.r.ins.a x.r.ins.l ∧ x.r.ro.l.length ≤ 300 ∧ x.r.ins.l.length ≤ 140737488355328 ∧ x.r.sg.l.length ≤ 140737488355328 ∧ ∀ y ∈ x.r.ins.l, y.d.l.length ≤ 140737488355328
theorem VOk.mod0 {w w' : World} {x : TdR} (h : VOk w x) (hm : Mod (fun _ => False) w w') : VOk w' x := ⟨h.1.mod0 hm, h.2.1.mod0 hm, h.2.2.1.mod0 hm, h.2.2.2⟩
def coX (x : TdR) : UInt64 := coF (UInt64.ofNat x.r.sg.l.length) (UInt64.ofNat (wrL x.r.ro.l).length) (dSum x.r.ins.l) x.o.un
section
variable {T : Nat → Prop} {b s q n t m : Nat} {e : Bool} {ea : Option Addr} {en ec : Nat} {oa : Option Addr} {on oc : Nat} {f : UInt64} {H : List Key} {N : List (Sg × Key)} {L : Lim} {bb sp : UInt64} {l : List (Key × UInt64)}
set_option maxRecDepth 20000 in
theorem step2_c (x : TdR) {p r : Nat} (w : World) (kb : w.heap[b]? = some (.cells (blkC s q n t e ea en ec oa on oc f) 125 (0, 0))) (hq : QuAt w q H) (hn : SeAt T w n N) (hv : VOk w x) (kp : w.heap[p]? = some (.cells #[ptrV b] 60 (0, 0))) (kr : w.heap[r]? = some (.cells (tdr x) 79 (0, 0))) :
    Calls Tryz.prog 78 #[ptrV p, ptrV r] w fun o w' => o = .returned (.int .i64 (frV H N x.r : Nat)) ∧ Mod (fun _ => False) w w' := by
  have HF := Lib.hid (fun wq (h : Mod (fun _ => False) w wq) => fresh_c x.r wq (h.at0 kb) (hq.mod0 h) (hn.mod0 h) (hv.1.mod0 h))
  generalize frV H N x.r = vd at *
  clear hq hn hv
  unfold blkC at kb
  go_enter Tryz.func78, Tryz.ntmps78
  go_upto_region 1 with fail
  have Lkb := lt_size kb
  have Lkp := lt_size kp
  have Lkr := lt_size kr
  refine wp_pass (C := fun _ _ v => v = .int .i64 (vd : Int)) (κ := fun i => [1, 0, 0, 0, 1, 2, 0].getD i 0) [0, 1, 2, 3, 4, 5, 6] (by kernel_rfl) (by kernel_rfl) (fun _ _ d _ _ h => by cases d <;> first | exact h | exact absurd h (hP _ _ _)) ?_
  (refine TD.load (v := ?v1) (p := ?p1) (Mod.refl _ _) (by simp only [zA, zB, zC]; rfl) rfl ?hw1 rfl ?hx1 (fun wq hSq => ?hy1) ?hn1; (case hw1 => rfl); (case hx1 => (simp only [Act.eval, zD, zA, zB, zC, zE]; (try rfl))); (case hy1 => (have kbq := hSq.at kb (fun h => h); have kpq := hSq.at kp (fun h => h); have krq := hSq.at kr (fun h => h); go_simp; (try with_reducible rfl))); (try simp only [Act.put, zF, zG, zH]))
  (refine TD.val0 (v := ?v2) (by simp only [zA, zB, zC]; rfl) rfl ?hw2 (fun w1 => ?hy2) ?hn2; (case hw2 => rfl); (case hy2 => (go_simp; (try with_reducible rfl))); (try simp only [Act.put, zF, zG, zH]))
  (refine TD.val0 (v := ?v3) (by simp only [zA, zB, zC]; rfl) rfl ?hw3 (fun w1 => ?hy3) ?hn3; (case hw3 => rfl); (case hy3 => (go_simp; (try with_reducible rfl))); (try simp only [Act.put, zF, zG, zH]))
  (refine TD.val0 (v := ?v4) (by simp only [zA, zB, zC]; rfl) rfl ?hw4 (fun w1 => ?hy4) ?hn4; (case hw4 => rfl); (case hy4 => (go_simp; (try with_reducible rfl))); (try simp only [Act.put, zF, zG, zH]))
  (refine TD.load (v := ?v5) (p := ?p5) (Mod.refl _ _) (by simp only [zA, zB, zC]; rfl) rfl ?hw5 rfl ?hx5 (fun wq hSq => ?hy5) ?hn5; (case hw5 => rfl); (case hx5 => (simp only [Act.eval, zD, zA, zB, zC, zE]; (try rfl))); (case hy5 => (have kbq := hSq.at kb (fun h => h); have kpq := hSq.at kp (fun h => h); have krq := hSq.at kr (fun h => h); go_simp; (try with_reducible rfl))); (try simp only [Act.put, zF, zG, zH]))
  (refine TD.call (f := ?f6) (args := ?r6) (Mod.refl _ _) (by simp only [zA, zB, zC]; rfl) rfl ?hw6 (fun w1 => ?hy6) ?hsp6 ?hn6; (case hw6 => rfl); (case hy6 => (go_simp; (first | with_reducible rfl | (constructor <;> with_reducible rfl)))); (case hsp6 => (intro wq hSq; have kbq := hSq.at kb (fun h => h); have kpq := hSq.at kp (fun h => h); have krq := hSq.at kr (fun h => h); exact (HF.out wq hSq).mono (fun e w' h => ⟨_, h.1, rfl, h.2⟩))); rintro _ rfl; (try simp only [Act.put, zF, zG, zH]))
  (refine TD.val0 (v := ?v7) (by simp only [zA, zB, zC]; rfl) rfl ?hw7 (fun w1 => ?hy7) ?hn7; (case hw7 => rfl); (case hy7 => (go_simp; (try with_reducible rfl))); (try simp only [Act.put, zF, zG, zH]))
  refine TD.nil (fun w3 hr => ?_)
  replace kb := hr.mod.at kb (fun h => h)
  replace kp := hr.mod.at kp (fun h => h)
  replace kr := hr.mod.at kr (fun h => h)
  have m3 := hr.mod
  go_wp2_with fail
  go_ret
  exact ⟨rfl, m3⟩
def S3 (t m : Nat) (L : Lim) (bb sp : UInt64) (l : List (Key × UInt64)) (x : TdR) (v : Nat) (w w' : World) : Prop :=
  v = would L bb sp (ofK l) (coX x) (wrL x.r.ro.l) x.o.sp ∧ ((v ≠ 0 ∧ Mod (fun _ => False) w w') ∨ (v = 0 ∧ AddPost t m L bb sp l (coX x) x.o.sp (wrL x.r.ro.l) w w'))
set_option maxRecDepth 20000 in
set_option maxHeartbeats 1600000 in
theorem step3_c (x : TdR) {p r : Nat} (w : World) (kb : w.heap[b]? = some (.cells (blkC s q n t e ea en ec oa on oc f) 125 (0, 0))) (ht : TrAt w t m L bb sp l) (hv : VOk w x) (kp : w.heap[p]? = some (.cells #[ptrV b] 60 (0, 0))) (kr : w.heap[r]? = some (.cells (tdr x) 79 (0, 0))) :
    Calls Tryz.prog 80 #[ptrV r, ptrV p] w fun o w' => ∃ v : Nat, o = .returned (.int .i64 (v : Int)) ∧ S3 t m L bb sp l x v w w' := by
  have HT := Lib.hid ht
  have HV := Lib.hid hv
  unfold blkC at kb
  clear ht hv
  by_cases hw : would L bb sp (ofK l) (coX x) (wrL x.r.ro.l) x.o.sp = 0
  · have HW := Lib.hid hw
    clear hw
    go_enter Tryz.func80, Tryz.ntmps80
    go_upto_region 1 with fail
    go_wp2_with fail
    go_at_call 81
    refine (written_c x.r.ro.a x.r.ro.l x.r.ro.c _ HV.out.2.1 (by have := HV.out.2.2.2.1; omega)).mono ?_
    rintro o w1 ⟨v1, rfl, hN1, m1⟩
    obtain ⟨a1, rfl, hS1, hB1⟩ := hN1.at
    replace kb := m1.at0 kb
    replace kp := m1.at0 kp
    replace kr := m1.at0 kr
    have HS1 := Lib.hid (And.intro hS1 hB1)
    have HT1 := Lib.hid (HT.out.mod0 m1)
    have HV1 := Lib.hid (HV.out.mod0 m1)
    have HLT := Lib.hid (And.intro (lt_size HT.out.1) (And.intro (by obtain ⟨_, es, cl, km, _⟩ := HT.out; exact lt_size km) m1.size))
    have HM1 := Lib.hid m1
    clear hN1 hS1 hB1 m1
    have hwl : (wrL x.r.ro.l).length ≤ 300 := Nat.le_trans (wrL_len _) HV.out.2.2.2.1
    generalize hwrl : (wrL x.r.ro.l).length = wn at *
    have HWN := Lib.hid hwrl
    clear hwrl
    obtain ⟨cx, hcx⟩ : ∃ cx, coF (UInt64.ofNat x.r.sg.l.length) (UInt64.ofNat wn) (dSum x.r.ins.l) x.o.un = cx := ⟨_, rfl⟩
    have HCX : Hid (coX x = cx) := Lib.hid (by rw [← hcx, ← HWN.out]; rfl)
    have HOF : Hid (∀ wq, Mod (fun _ => False) w1 wq → Calls Tryz.prog 83 #[.agg (txr x.r), .int .i64 (wn : Int), u64v x.o.un] wq fun e w' => e = .returned (u64v cx) ∧ Mod (fun _ => False) wq w') := Lib.hid (fun wq h => by
      rw [← hcx]
      exact of_c x.r wn x.o.un (by omega) wq (HV1.out.2.2.1.mod0 h) HV1.out.2.2.2.2.1 HV1.out.2.2.2.2.2.1 HV1.out.2.2.2.2.2.2)
    clear hcx
    go_upto_region 2 with fail
    have Lkb := lt_size kb
    have Lkp := lt_size kp
    have Lkr := lt_size kr
    refine wp_pass (C := fun _ _ v => v = u64v cx) (κ := fun i => [1, 0, 0, 1, 0, 0, 1, 0, 0, 0, 0, 1, 2, 0, 0, 0, 1, 5, 0].getD i 0) [0, 1, 2, 3, 4, 5, 6, 7, 8, 9, 10, 11, 12, 13, 14, 15, 16, 17, 18] (by kernel_rfl) (by kernel_rfl) (fun _ _ d _ _ h => by cases d <;> first | exact h | exact absurd h (hP _ _ _)) ?_
    (refine TD.load (v := ?v8) (p := ?p8) (Mod.refl _ _) (by simp only [zA, zB, zC]; rfl) rfl ?hw8 rfl ?hx8 (fun wq hSq => ?hy8) ?hn8; (case hw8 => rfl); (case hx8 => (simp only [Act.eval, zD, zA, zB, zC, zE]; (try rfl))); (case hy8 => (have kbq := hSq.at kb (fun h => h); have kpq := hSq.at kp (fun h => h); have krq := hSq.at kr (fun h => h); go_simp; (try with_reducible rfl))); (try simp only [Act.put, zF, zG, zH]))
    (refine TD.val0 (v := ?v9) (by simp only [zA, zB, zC]; rfl) rfl ?hw9 (fun w1 => ?hy9) ?hn9; (case hw9 => rfl); (case hy9 => (go_simp; (try with_reducible rfl))); (try simp only [Act.put, zF, zG, zH]))
    (refine TD.val0 (v := ?v10) (by simp only [zA, zB, zC]; rfl) rfl ?hw10 (fun w1 => ?hy10) ?hn10; (case hw10 => rfl); (case hy10 => (go_simp; (try with_reducible rfl))); (try simp only [Act.put, zF, zG, zH]))
    (refine TD.load (v := ?v11) (p := ?p11) (Mod.refl _ _) (by simp only [zA, zB, zC]; rfl) rfl ?hw11 rfl ?hx11 (fun wq hSq => ?hy11) ?hn11; (case hw11 => rfl); (case hx11 => (simp only [Act.eval, zD, zA, zB, zC, zE]; (try rfl))); (case hy11 => (have kbq := hSq.at kb (fun h => h); have kpq := hSq.at kp (fun h => h); have krq := hSq.at kr (fun h => h); go_simp; (try with_reducible rfl))); (try simp only [Act.put, zF, zG, zH]))
    (refine TD.val0 (v := ?v12) (by simp only [zA, zB, zC]; rfl) rfl ?hw12 (fun w1 => ?hy12) ?hn12; (case hw12 => rfl); (case hy12 => (go_simp; (try with_reducible rfl))); (try simp only [Act.put, zF, zG, zH]))
    (refine TD.val0 (v := ?v13) (by simp only [zA, zB, zC]; rfl) rfl ?hw13 (fun w1 => ?hy13) ?hn13; (case hw13 => rfl); (case hy13 => (go_simp; (try with_reducible rfl))); (try simp only [Act.put, zF, zG, zH]))
    (refine TD.load (v := ?v14) (p := ?p14) (Mod.refl _ _) (by simp only [zA, zB, zC]; rfl) rfl ?hw14 rfl ?hx14 (fun wq hSq => ?hy14) ?hn14; (case hw14 => rfl); (case hx14 => (simp only [Act.eval, zD, zA, zB, zC, zE]; (try rfl))); (case hy14 => (have kbq := hSq.at kb (fun h => h); have kpq := hSq.at kp (fun h => h); have krq := hSq.at kr (fun h => h); go_simp; (try with_reducible rfl))); (try simp only [Act.put, zF, zG, zH]))
    (refine TD.val0 (v := ?v15) (by simp only [zA, zB, zC]; rfl) rfl ?hw15 (fun w1 => ?hy15) ?hn15; (case hw15 => rfl); (case hy15 => (go_simp; (try with_reducible rfl))); (try simp only [Act.put, zF, zG, zH]))
    (refine TD.val0 (v := ?v16) (by simp only [zA, zB, zC]; rfl) rfl ?hw16 (fun w1 => ?hy16) ?hn16; (case hw16 => rfl); (case hy16 => (go_simp; (try with_reducible rfl))); (try simp only [Act.put, zF, zG, zH]))
    (refine TD.val0 (v := ?v17) (by simp only [zA, zB, zC]; rfl) rfl ?hw17 (fun w1 => ?hy17) ?hn17; (case hw17 => rfl); (case hy17 => (go_simp; (try with_reducible rfl))); (try simp only [Act.put, zF, zG, zH]))
    (refine TD.val0 (v := ?v18) (by simp only [zA, zB, zC]; rfl) rfl ?hw18 (fun w1 => ?hy18) ?hn18; (case hw18 => rfl); (case hy18 => (go_simp; (try with_reducible rfl))); (try simp only [Act.put, zF, zG, zH]))
    (refine TD.load (v := ?v19) (p := ?p19) (Mod.refl _ _) (by simp only [zA, zB, zC]; rfl) rfl ?hw19 rfl ?hx19 (fun wq hSq => ?hy19) ?hn19; (case hw19 => rfl); (case hx19 => (simp only [Act.eval, zD, zA, zB, zC, zE]; (try rfl))); (case hy19 => (have kbq := hSq.at kb (fun h => h); have kpq := hSq.at kp (fun h => h); have krq := hSq.at kr (fun h => h); go_simp; (try with_reducible rfl))); (try simp only [Act.put, zF, zG, zH]))
    (refine TD.call (f := ?f20) (args := ?r20) (Mod.refl _ _) (by simp only [zA, zB, zC]; rfl) rfl ?hw20 (fun w1 => ?hy20) ?hsp20 ?hn20; (case hw20 => rfl); (case hy20 => (go_simp; (first | with_reducible rfl | (constructor <;> with_reducible rfl)))); (case hsp20 => (intro wq hSq; have kbq := hSq.at kb (fun h => h); have kpq := hSq.at kp (fun h => h); have krq := hSq.at kr (fun h => h); exact (HOF.out wq hSq).mono (fun e w' h => ⟨_, h.1, rfl, h.2⟩))); rintro _ rfl; (try simp only [Act.put, zF, zG, zH]))
    (refine TD.val0 (v := ?v21) (by simp only [zA, zB, zC]; rfl) rfl ?hw21 (fun w1 => ?hy21) ?hn21; (case hw21 => rfl); (case hy21 => (go_simp; (try with_reducible rfl))); (try simp only [Act.put, zF, zG, zH]))
    (refine TD.val0 (v := ?v22) (by simp only [zA, zB, zC]; rfl) rfl ?hw22 (fun w1 => ?hy22) ?hn22; (case hw22 => rfl); (case hy22 => (go_simp; (try with_reducible rfl))); (try simp only [Act.put, zF, zG, zH]))
    (refine TD.val0 (v := ?v23) (by simp only [zA, zB, zC]; rfl) rfl ?hw23 (fun w1 => ?hy23) ?hn23; (case hw23 => rfl); (case hy23 => (go_simp; (try with_reducible rfl))); (try simp only [Act.put, zF, zG, zH]))
    (refine TD.load (v := ?v24) (p := ?p24) (Mod.refl _ _) (by simp only [zA, zB, zC]; rfl) rfl ?hw24 rfl ?hx24 (fun wq hSq => ?hy24) ?hn24; (case hw24 => rfl); (case hx24 => (simp only [Act.eval, zD, zA, zB, zC, zE]; (try rfl))); (case hy24 => (have kbq := hSq.at kb (fun h => h); have kpq := hSq.at kp (fun h => h); have krq := hSq.at kr (fun h => h); go_simp; (try with_reducible rfl))); (try simp only [Act.put, zF, zG, zH]))
    refine TD.eff (by simp only [zA, zB, zC]; rfl) rfl (fun w3 hr => ?_)
    replace kb := hr.mod.at kb (fun h => h)
    replace kp := hr.mod.at kp (fun h => h)
    replace kr := hr.mod.at kr (fun h => h)
    have m3 := hr.mod
    have hT3 := HT1.out.mod0 m3
    have hS3 := HS1.out.1.mod0 m3
    have HM3 := Lib.hid (HM1.out.then0 m3)
    clear hr m3 kb kp kr
    have hadd := addR_c cx x.o.sp a1 (wrL x.r.ro.l) wn w3 hT3 hS3 (by rw [HWN.out]; omega) (by rw [← HCX.out]; exact HW.out) (fun y yo hy => by
      have h1 := HLT.out
      have h2 := (HS1.out.2 y yo hy).1
      exact ⟨by omega, by omega⟩)
    rw [HWN.out] at hadd
    (refine eff_callP (by simp only [zA, zB, zC]; rfl) ?hw26 ?hy26 hadd (fun wn hP => ?hn26); (case hw26 => rfl); (case hy26 => (go_simp; (try (first | with_reducible rfl | (constructor <;> with_reducible rfl))))); (try simp only [Act.put, zF, zG, zH]))
    (refine TE.val0 (v := ?v27) (by simp only [zA, zB, zC]; rfl) ?hw27 (fun w1 => ?hy27) ?hn27; (case hw27 => rfl); (case hy27 => (go_simp; (try with_reducible rfl))); (try simp only [Act.put, zF, zG, zH]))
    refine TE.nil ?_
    go_wp2_with fail
    go_ret
    exact ⟨0, rfl, HW.out.symm, .inr ⟨rfl, by rw [HCX.out]; exact ⟨hP.1, (HM3.out.mono (fun _ _ h => h.elim)).trans hP.2⟩⟩⟩
  · have HW := Lib.hid hw
    clear hw
    go_enter Tryz.func80, Tryz.ntmps80
    go_upto_region 1 with fail
    go_wp2_with fail
    go_at_call 81
    refine (written_c x.r.ro.a x.r.ro.l x.r.ro.c _ HV.out.2.1 (by have := HV.out.2.2.2.1; omega)).mono ?_
    rintro o w1 ⟨v1, rfl, hN1, m1⟩
    obtain ⟨a1, rfl, hS1, hB1⟩ := hN1.at
    replace kb := m1.at0 kb
    replace kp := m1.at0 kp
    replace kr := m1.at0 kr
    have HS1 := Lib.hid (And.intro hS1 hB1)
    have HT1 := Lib.hid (HT.out.mod0 m1)
    have HV1 := Lib.hid (HV.out.mod0 m1)
    have HLT := Lib.hid (And.intro (lt_size HT.out.1) (And.intro (by obtain ⟨_, es, cl, km, _⟩ := HT.out; exact lt_size km) m1.size))
    have HM1 := Lib.hid m1
    clear hN1 hS1 hB1 m1
    have hwl : (wrL x.r.ro.l).length ≤ 300 := Nat.le_trans (wrL_len _) HV.out.2.2.2.1
    generalize hwrl : (wrL x.r.ro.l).length = wn at *
    have HWN := Lib.hid hwrl
    clear hwrl
    obtain ⟨cx, hcx⟩ : ∃ cx, coF (UInt64.ofNat x.r.sg.l.length) (UInt64.ofNat wn) (dSum x.r.ins.l) x.o.un = cx := ⟨_, rfl⟩
    have HCX : Hid (coX x = cx) := Lib.hid (by rw [← hcx, ← HWN.out]; rfl)
    have HOF : Hid (∀ wq, Mod (fun _ => False) w1 wq → Calls Tryz.prog 83 #[.agg (txr x.r), .int .i64 (wn : Int), u64v x.o.un] wq fun e w' => e = .returned (u64v cx) ∧ Mod (fun _ => False) wq w') := Lib.hid (fun wq h => by
      rw [← hcx]
      exact of_c x.r wn x.o.un (by omega) wq (HV1.out.2.2.1.mod0 h) HV1.out.2.2.2.2.1 HV1.out.2.2.2.2.2.1 HV1.out.2.2.2.2.2.2)
    clear hcx
    go_upto_region 2 with fail
    have Lkb := lt_size kb
    have Lkp := lt_size kp
    have Lkr := lt_size kr
    refine wp_pass (C := fun _ _ v => v = u64v cx) (κ := fun i => [1, 0, 0, 1, 0, 0, 1, 0, 0, 0, 0, 1, 2, 0, 0, 0, 1, 5, 0].getD i 0) [0, 1, 2, 3, 4, 5, 6, 7, 8, 9, 10, 11, 12, 13, 14, 15, 16, 17, 18] (by kernel_rfl) (by kernel_rfl) (fun _ _ d _ _ h => by cases d <;> first | exact h | exact absurd h (hP _ _ _)) ?_
    (refine TD.load (v := ?v28) (p := ?p28) (Mod.refl _ _) (by simp only [zA, zB, zC]; rfl) rfl ?hw28 rfl ?hx28 (fun wq hSq => ?hy28) ?hn28; (case hw28 => rfl); (case hx28 => (simp only [Act.eval, zD, zA, zB, zC, zE]; (try rfl))); (case hy28 => (have kbq := hSq.at kb (fun h => h); have kpq := hSq.at kp (fun h => h); have krq := hSq.at kr (fun h => h); go_simp; (try with_reducible rfl))); (try simp only [Act.put, zF, zG, zH]))
    (refine TD.val0 (v := ?v29) (by simp only [zA, zB, zC]; rfl) rfl ?hw29 (fun w1 => ?hy29) ?hn29; (case hw29 => rfl); (case hy29 => (go_simp; (try with_reducible rfl))); (try simp only [Act.put, zF, zG, zH]))
    (refine TD.val0 (v := ?v30) (by simp only [zA, zB, zC]; rfl) rfl ?hw30 (fun w1 => ?hy30) ?hn30; (case hw30 => rfl); (case hy30 => (go_simp; (try with_reducible rfl))); (try simp only [Act.put, zF, zG, zH]))
    (refine TD.load (v := ?v31) (p := ?p31) (Mod.refl _ _) (by simp only [zA, zB, zC]; rfl) rfl ?hw31 rfl ?hx31 (fun wq hSq => ?hy31) ?hn31; (case hw31 => rfl); (case hx31 => (simp only [Act.eval, zD, zA, zB, zC, zE]; (try rfl))); (case hy31 => (have kbq := hSq.at kb (fun h => h); have kpq := hSq.at kp (fun h => h); have krq := hSq.at kr (fun h => h); go_simp; (try with_reducible rfl))); (try simp only [Act.put, zF, zG, zH]))
    (refine TD.val0 (v := ?v32) (by simp only [zA, zB, zC]; rfl) rfl ?hw32 (fun w1 => ?hy32) ?hn32; (case hw32 => rfl); (case hy32 => (go_simp; (try with_reducible rfl))); (try simp only [Act.put, zF, zG, zH]))
    (refine TD.val0 (v := ?v33) (by simp only [zA, zB, zC]; rfl) rfl ?hw33 (fun w1 => ?hy33) ?hn33; (case hw33 => rfl); (case hy33 => (go_simp; (try with_reducible rfl))); (try simp only [Act.put, zF, zG, zH]))
    (refine TD.load (v := ?v34) (p := ?p34) (Mod.refl _ _) (by simp only [zA, zB, zC]; rfl) rfl ?hw34 rfl ?hx34 (fun wq hSq => ?hy34) ?hn34; (case hw34 => rfl); (case hx34 => (simp only [Act.eval, zD, zA, zB, zC, zE]; (try rfl))); (case hy34 => (have kbq := hSq.at kb (fun h => h); have kpq := hSq.at kp (fun h => h); have krq := hSq.at kr (fun h => h); go_simp; (try with_reducible rfl))); (try simp only [Act.put, zF, zG, zH]))
    (refine TD.val0 (v := ?v35) (by simp only [zA, zB, zC]; rfl) rfl ?hw35 (fun w1 => ?hy35) ?hn35; (case hw35 => rfl); (case hy35 => (go_simp; (try with_reducible rfl))); (try simp only [Act.put, zF, zG, zH]))
    (refine TD.val0 (v := ?v36) (by simp only [zA, zB, zC]; rfl) rfl ?hw36 (fun w1 => ?hy36) ?hn36; (case hw36 => rfl); (case hy36 => (go_simp; (try with_reducible rfl))); (try simp only [Act.put, zF, zG, zH]))
    (refine TD.val0 (v := ?v37) (by simp only [zA, zB, zC]; rfl) rfl ?hw37 (fun w1 => ?hy37) ?hn37; (case hw37 => rfl); (case hy37 => (go_simp; (try with_reducible rfl))); (try simp only [Act.put, zF, zG, zH]))
    (refine TD.val0 (v := ?v38) (by simp only [zA, zB, zC]; rfl) rfl ?hw38 (fun w1 => ?hy38) ?hn38; (case hw38 => rfl); (case hy38 => (go_simp; (try with_reducible rfl))); (try simp only [Act.put, zF, zG, zH]))
    (refine TD.load (v := ?v39) (p := ?p39) (Mod.refl _ _) (by simp only [zA, zB, zC]; rfl) rfl ?hw39 rfl ?hx39 (fun wq hSq => ?hy39) ?hn39; (case hw39 => rfl); (case hx39 => (simp only [Act.eval, zD, zA, zB, zC, zE]; (try rfl))); (case hy39 => (have kbq := hSq.at kb (fun h => h); have kpq := hSq.at kp (fun h => h); have krq := hSq.at kr (fun h => h); go_simp; (try with_reducible rfl))); (try simp only [Act.put, zF, zG, zH]))
    (refine TD.call (f := ?f40) (args := ?r40) (Mod.refl _ _) (by simp only [zA, zB, zC]; rfl) rfl ?hw40 (fun w1 => ?hy40) ?hsp40 ?hn40; (case hw40 => rfl); (case hy40 => (go_simp; (first | with_reducible rfl | (constructor <;> with_reducible rfl)))); (case hsp40 => (intro wq hSq; have kbq := hSq.at kb (fun h => h); have kpq := hSq.at kp (fun h => h); have krq := hSq.at kr (fun h => h); exact (HOF.out wq hSq).mono (fun e w' h => ⟨_, h.1, rfl, h.2⟩))); rintro _ rfl; (try simp only [Act.put, zF, zG, zH]))
    (refine TD.val0 (v := ?v41) (by simp only [zA, zB, zC]; rfl) rfl ?hw41 (fun w1 => ?hy41) ?hn41; (case hw41 => rfl); (case hy41 => (go_simp; (try with_reducible rfl))); (try simp only [Act.put, zF, zG, zH]))
    (refine TD.val0 (v := ?v42) (by simp only [zA, zB, zC]; rfl) rfl ?hw42 (fun w1 => ?hy42) ?hn42; (case hw42 => rfl); (case hy42 => (go_simp; (try with_reducible rfl))); (try simp only [Act.put, zF, zG, zH]))
    (refine TD.val0 (v := ?v43) (by simp only [zA, zB, zC]; rfl) rfl ?hw43 (fun w1 => ?hy43) ?hn43; (case hw43 => rfl); (case hy43 => (go_simp; (try with_reducible rfl))); (try simp only [Act.put, zF, zG, zH]))
    (refine TD.load (v := ?v44) (p := ?p44) (Mod.refl _ _) (by simp only [zA, zB, zC]; rfl) rfl ?hw44 rfl ?hx44 (fun wq hSq => ?hy44) ?hn44; (case hw44 => rfl); (case hx44 => (simp only [Act.eval, zD, zA, zB, zC, zE]; (try rfl))); (case hy44 => (have kbq := hSq.at kb (fun h => h); have kpq := hSq.at kp (fun h => h); have krq := hSq.at kr (fun h => h); go_simp; (try with_reducible rfl))); (try simp only [Act.put, zF, zG, zH]))
    refine TD.eff (by simp only [zA, zB, zC]; rfl) rfl (fun w3 hr => ?_)
    replace kb := hr.mod.at kb (fun h => h)
    replace kp := hr.mod.at kp (fun h => h)
    replace kr := hr.mod.at kr (fun h => h)
    have m3 := hr.mod
    have hT3 := HT1.out.mod0 m3
    have hS3 := HS1.out.1.mod0 m3
    have HM3 := Lib.hid (HM1.out.then0 m3)
    clear hr m3 kb kp kr
    have hadd := addN_c cx x.o.sp a1 (wrL x.r.ro.l) wn w3 hT3 hS3 (by rw [HWN.out]; omega) (by rw [← HCX.out]; exact HW.out)
    rw [HWN.out, ← HCX.out] at hadd
    generalize hwv : would L bb sp (ofK l) (coX x) (wrL x.r.ro.l) x.o.sp = wv at *
    have HWV := Lib.hid hwv
    clear hwv
    rw [HCX.out] at hadd
    (refine eff_callP (by simp only [zA, zB, zC]; rfl) ?hw46 ?hy46 hadd (fun wn hP => ?hn46); (case hw46 => rfl); (case hy46 => (go_simp; (try (first | with_reducible rfl | (constructor <;> with_reducible rfl))))); (try simp only [Act.put, zF, zG, zH]))
    (refine TE.val0 (v := ?v47) (by simp only [zA, zB, zC]; rfl) ?hw47 (fun w1 => ?hy47) ?hn47; (case hw47 => rfl); (case hy47 => (go_simp; (try with_reducible rfl))); (try simp only [Act.put, zF, zG, zH]))
    refine TE.nil ?_
    go_wp2_with fail
    go_ret
    exact ⟨wv, rfl, HWV.out.symm, .inl ⟨HW.out, HM3.out.then0 hP⟩⟩
def vdN (e : Bool) (H : List Key) (N : List (Sg × Key)) (L : Lim) (bb sp : UInt64) (l : List (Key × UInt64)) (x : TdR) : Nat :=
  if e then 23 else if frV H N x.r ≠ 0 then frV H N x.r else would L bb sp (ofK l) (coX x) (wrL x.r.ro.l) x.o.sp
theorem verdict_c (x : TdR) (w : World) (kb : w.heap[b]? = some (.cells (blkC s q n t e ea en ec oa on oc f) 125 (0, 0))) (hq : QuAt w q H) (hn : SeAt T w n N) (ht : TrAt w t m L bb sp l) (hv : VOk w x) :
    Calls Tryz.prog 46 #[ptrV b, .agg (tdr x)] w fun o w' => o = .returned (.int .i64 (vdN e H N L bb sp l x : Nat)) ∧ ((vdN e H N L bb sp l x ≠ 0 ∧ Mod (fun _ => False) w w') ∨ (vdN e H N L bb sp l x = 0 ∧ AddPost t m L bb sp l (coX x) x.o.sp (wrL x.r.ro.l) w w')) := by
  refine (verdict_g (b := b) (x := x) (w := w) (v1 := if e then 23 else 0) (v2 := frV H N x.r) (R := fun v w1 w' => S3 t m L bb sp l x v w1 w')
    (fun p w1 hp hm => (step1_c w1 (hm.at0 kb) hp).mono ?_) (fun _ p r w1 hp hr hm => step2_c x w1 (hm.at0 kb) (hq.mod0 hm) (hn.mod0 hm) (hv.mod0 hm) hp hr) (fun _ _ p r w1 hp hr hm => step3_c x w1 (hm.at0 kb) (ht.mod0 hm) (hv.mod0 hm) hp hr)).mono ?_
  · rintro o w' ⟨rfl, rfl⟩
    exact ⟨by cases e <;> rfl, Mod.refl _ _⟩
  · rintro o w' (⟨h1, rfl, hm⟩ | ⟨h1, h2, rfl, hm⟩ | ⟨h1, h2, v, w1, rfl, ⟨hv, hR⟩, hm⟩)
    · have he : e = true := by cases e <;> simp at h1 ⊢
      subst he
      exact ⟨rfl, .inl ⟨by simp [vdN], hm⟩⟩
    · have he : e = false := by cases e <;> simp at h1 ⊢
      subst he
      have hx : vdN false H N L bb sp l x = frV H N x.r := by simp [vdN, h2]
      rw [hx]
      exact ⟨rfl, .inl ⟨h2, hm⟩⟩
    · have he : e = false := by cases e <;> simp at h1 ⊢
      subst he
      have hx : vdN false H N L bb sp l x = v := by simp [vdN, h2, hv]
      rw [hx]
      refine ⟨rfl, ?_⟩
      rcases hR with ⟨h3, h4⟩ | ⟨h3, h4⟩
      · exact .inl ⟨h3, hm.trans h4⟩
      · exact .inr ⟨h3, h4.1, (hm.mono (fun _ _ h => h.elim)).trans h4.2⟩
end
end Go.Proofs.YtofpnmoeimjnnaaGreat
namespace Go.Proofs.YtofpnmoeimjnnaaGreat
open Go.RowKit
open Go.ChangeMaps (setBlock)
set_option linter.unusedSimpArgs false
set_option linter.unusedVariables false
attribute [local go_sem ↓] wlKey ldKey stKey wlAcct ldAcct stAcct wlHold ldHold stHold wlHash ldHash stHash wlSig ldSig stSig wlLim ldLim stLim wlRdy ldRdy stRdy wlOut ldOut stOut wlTd ldTd stTd wlTx ldTx stTx eqKey1
attribute [local go_sem] eqMap neMap av_size av_all av_one hd_size hd_key hd_acct hd_all hd_one zKey_size zAcct_size zHold_size zHash_size zSg_size zLim_size zRdy_size zOut_size zTried_size zTx_size cell_blk frozen_blk kc_ext one_int one_bool one_ptr one_slice one_map kc_one kc_one0 kc_size sgc_size sgc_ext sgc_one0 sgc_one' rdr_size rdr_all rdr_one rdr_tx rdr_rec rdr0 rdr1 rdr6 rdr39 rdr40 rdr41 rdr0' rdr1' rdr6' rdr39' rdr40' rdr41' ocr_size ocr_all ocr_one ocr2 ocr3 ocr4 ocr5 ocr2' ocr3' ocr4' ocr5' tdr_size tdr_all tdr_one tdr_r tdr_o tdr_tx tdr_rec tdr0 tdr1 tdr41 tdr50 tdr51 tdr52 tdr53 tdr0' tdr1' tdr41' tdr50' tdr51' tdr52' tdr53' txr_size txr_all txr_one txr0 txr38 txr39 txr0' txr38' txr39' Value.cells
theorem eff_append2 {P : Program} {ops : Array Oper} {Q : Exit → Act → World → Prop} {i : Nat} {a : Act} {o : Oper} {K : Act → World → Prop} {w w' : World} {t t2 : TypeId} {s x : Operand} {v u v' : Value} (ho : ops[i]? = some o) (hw : Region.wanted o (yielded ops a.tmps) = true)
    (hop : o.op = .call { callee := .builtin .append, args := #[s, x], argTypes := #[t, t2] }) (hs : a.eval s = v) (hx : a.eval x = u) (hr : (Builtin.append_ #[t, t2] o.type #[v, u]).run P w = .ok v' w')
    (h : K (a.put o.dst v') w') : wpOp P ops Q i K a w :=
  eff_value ho hw (by subst hs; subst hx; simp [execOp, hop, resolve, invoke, builtin, hr]) h
theorem SlOwn.baseLe {α : Type} {f : α → Array Value} {n : Nat} {E : TypeId} {w : World} {b b' : Nat} {v : Value} {l : List α} (h : SlOwn f n E w b v l) (hb : b' ≤ b) : SlOwn f n E w b' v l := by
  refine ⟨h.1, ?_⟩
  rcases h.2 with h2 | ⟨g, cap, cur, e, h3, h4⟩
  · exact .inl h2
  · exact .inr ⟨g, cap, cur, e, Nat.le_trans hb h3, h4⟩
set_option maxRecDepth 20000 in
set_option maxHeartbeats 1600000 in
theorem grow0_c (n : Nat) (w : World) (h0 : 0 < n) (hn : n ≤ 1000000000) : Calls Tryz.prog 88 #[.slice none 0 0, .int .i64 (n : Int)] w fun e w' => ∃ v, e = .returned v ∧ SlOwn uc 1 5 w' w.heap.size v ([] : List UInt8) ∧ Mod (fun _ => False) w w' := by
  obtain ⟨i0, hi, hz0, hz1, hz2⟩ := info_parts (show (Tryz.prog.info? 5).map (fun i => (i.zero, i.size, i.bytes)) = some (some (.int .u8 0), 1, 1) by kernel_rfl)
  have hap : ∀ (w : World) ty, ∃ g w', (Builtin.append_ #[22, 3] ty #[.slice none 0 0, .int .i64 (n : Int)]).run Tryz.prog w = .ok (.slice (some ⟨w.heap.size, 0, none⟩) n g) w' ∧ n ≤ g ∧ SlOwn uc 1 5 w' w.heap.size (.slice (some ⟨w.heap.size, 0, none⟩) 0 g) ([] : List UInt8) ∧ Mod (fun _ => False) w w' := fun w ty => by
    have h := Lib.run_append_grow_zeros w 22 3 ty 5 i0 (.int .u8 0) .i64 .i64 Tryz.underlying22 Tryz.underlying3 hi hz0 none 0 0 [] (run_firstCells_none w.drew i0.size 0 0 0) n (by omega) (by rw [hz1]; omega) (by omega) (by omega) (by rw [hz2]; omega) (by rw [hz2]; exact growslice_fits (bytes := 1) (by omega) (by omega))
    rw [Nat.zero_add] at h
    have hge := grownCap_ge w n 0 5
    have hmx := grownCap_le_maxLen w n 0 5 (by unfold maxLen; omega)
    generalize grownCap w n 0 5 = G at *
    refine ⟨G, _, h, hge, ⟨by simp [cellsOf], .inr ⟨_, G, _, rfl, Nat.le_refl _, heap_alloc_new _ _, Nat.zero_le _, hmx, ?_, by simp [cellsOf]⟩⟩, ((Mod.refl (fun _ => False) w).drew).alloc _⟩
    simp [Value.cells, Builtin.zeroCells]
    omega
  have hq0 : ∀ w, (Instr.sliceAt 22 (.slice none 0 0) none (some (.int .i64 0)) none).run Tryz.prog w = .ok (.slice none 0 0) w := fun w => by kernel_rfl
  have hw1 : IntKind.i64.wrap ((n : Int) - 0) = (n : Int) := (IntWalk.i64_in _ (by omega)).trans (by omega)
  have hw2 : IntKind.i64.wrap (n : Int) = (n : Int) := IntWalk.i64_in _ (by omega)
  have hd1 : decide ((n : Int) < 0) = false := decide_eq_false (by omega)
  have hd2 : decide ((n : Int) > 0) = true := decide_eq_true (by omega)
  have hd3 : decide (0 < n) = true := decide_eq_true h0
  have HAP := Lib.hid hap
  clear hap
  go_enter Tryz.func88, Tryz.ntmps88
  go_upto_region 5 with fail
  refine wp_pass0 (C := fun _ _ _ => False) (κ := fun i => [0, 0, 0, 0, 0, 5, 0, 0, 0, 0].getD i 0) [0, 1, 2, 3, 4, 6, 7, 5, 8, 9] (by kernel_rfl) (by kernel_rfl) (fun _ _ d _ _ h => by cases d <;> first | exact h | exact absurd h (hP _ _ _)) ?_
  (refine TD.val0 (v := ?v1) (by simp only [zA, zB, zC]; rfl) rfl ?hw1 (fun w1 => ?hy1) ?hn1; (case hw1 => rfl); (case hy1 => (go_simp; (try with_reducible rfl))); (try simp only [Act.put, zF, zG, zH]))
  (refine TD.val0 (v := ?v2) (by simp only [zA, zB, zC]; rfl) rfl ?hw2 (fun w1 => ?hy2) ?hn2; (case hw2 => rfl); (case hy2 => (go_simp; (try with_reducible rfl))); (try simp only [Act.put, zF, zG, zH]))
  (refine TD.val0 (v := ?v3) (by simp only [zA, zB, zC]; rfl) rfl ?hw3 (fun w1 => ?hy3) ?hn3; (case hw3 => rfl); (case hy3 => (go_simp; (try with_reducible rfl))); (try simp only [Act.put, zF, zG, zH]))
  (refine TD.slice (by simp only [zA, zB, zC]; rfl) rfl ?hw4 rfl ?hs4 ?hl4 ?hh4 ?hm4 hq0 ?hn4; (case hw4 => rfl); (case hs4 => (simp only [Act.eval, zD, zA, zB, zC, zE]; (try rfl))); (case hl4 => first | rfl | (simp only [Option.map_some, Act.eval, zD, zA, zB, zC, zE]; (try rfl))); (case hh4 => first | rfl | (simp only [Option.map_some, Act.eval, zD, zA, zB, zC, zE]; (try rfl))); (case hm4 => rfl); (try simp only [Act.put, zF, zG, zH]))
  (refine TD.val0 (v := ?v5) (by simp only [zA, zB, zC]; rfl) rfl ?hw5 (fun w1 => ?hy5) ?hn5; (case hw5 => rfl); (case hy5 => (go_simp; (try with_reducible rfl))); (try simp only [Act.put, zF, zG, zH]))
  (refine TD.val0 (v := ?v6) (by simp only [zA, zB, zC]; rfl) rfl ?hw6 (fun w1 => ?hy6) ?hn6; (case hw6 => rfl); (case hy6 => (go_simp; (try with_reducible rfl))); (try simp only [Act.put, zF, zG, zH]))
  (refine TD.val0 (v := ?v7) (by simp only [zA, zB, zC]; rfl) rfl ?hw7 (fun w1 => ?hy7) ?hn7; (case hw7 => rfl); (case hy7 => (go_simp; (try with_reducible rfl))); (try simp only [Act.put, zF, zG, zH]))
  refine TD.eff (by simp only [zA, zB, zC]; rfl) rfl (fun w1 hr => ?_)
  have m1 := hr.mod
  clear hr
  obtain ⟨g, w2, hrun, hge, hO, hm⟩ := HAP.out w1 22
  have HO := Lib.hid (And.intro hO (m1.then0 hm))
  have hq2 : ∀ w2, (Instr.sliceAt 22 (.slice (some ⟨w1.heap.size, 0, none⟩) n g) none (some (.int .i64 0)) none).run Tryz.prog w2 = .ok (.slice (some ⟨w1.heap.size, 0, none⟩) 0 g) w2 := fun w2 => sl_take (k := 0) bytesT (by omega) w2
  have hms := m1.size
  clear hO hm hd1 hd2 hd3 hw1 hw2 hq0
  (refine eff_append2 (by simp only [zA, zB, zC]; rfl) ?hw9 rfl ?hx9 ?hz9 hrun ?hn9; (case hw9 => rfl); (case hx9 => (simp only [Act.eval, zD, zA, zB, zC, zE]; (try rfl))); (case hz9 => (simp only [Act.eval, zD, zA, zB, zC, zE]; (try rfl))); (try simp only [Act.put, zF, zG, zH]))
  (refine TE.val0 (v := ?v10) (by simp only [zA, zB, zC]; rfl) ?hw10 (fun w1 => ?hy10) ?hn10; (case hw10 => rfl); (case hy10 => (go_simp; (try with_reducible rfl))); (try simp only [Act.put, zF, zG, zH]))
  (refine TE.val0 (v := ?v11) (by simp only [zA, zB, zC]; rfl) ?hw11 (fun w1 => ?hy11) ?hn11; (case hw11 => rfl); (case hy11 => (go_simp; (try with_reducible rfl))); (try simp only [Act.put, zF, zG, zH]))
  refine TE.nil ?_
  go_wp2_with fail
  go_ret
  exact ⟨_, rfl, HO.out.1.baseLe hms, HO.out.2⟩
set_option maxRecDepth 20000 in
set_option maxHeartbeats 3200000 in
theorem concat2_c (g : Nat) (s1 s2 : Sl UInt8) (w : World) (kg : w.heap[g]? = some (.cells #[.slice s1.a s1.l.length s1.c, .slice s2.a s2.l.length s2.c] 22 (0, 0))) (h1 : SlAt uc 1 w s1.a s1.l) (h2 : SlAt uc 1 w s2.a s2.l) (hpos : 0 < s1.l.length) (hn : s1.l.length + s2.l.length ≤ 1000000) :
    Calls Tryz.prog 50 #[.slice (some ⟨g, 0, none⟩) 2 2] w fun e w' => ∃ v, e = .returned v ∧ SlOwn uc 1 5 w' w.heap.size v (s1.l ++ s2.l) ∧ Mod (fun _ => False) w w' := by
  have HS := Lib.hid (And.intro h1 h2)
  clear h1 h2
  generalize hl1 : s1.l.length = n1 at *
  generalize hl2 : s2.l.length = n2 at *
  have HL := Lib.hid (And.intro hl1 hl2)
  clear hl1 hl2
  go_enter Tryz.func50, Tryz.ntmps50
  go_wp2_with fail
  go_loopw [3, 11] (fun s3 s11 ws => ∃ i : Nat, i ≤ 2 ∧ s11 = .int .i64 (i : Int) ∧ s3 = .int .i64 ((if i = 0 then 0 else if i = 1 then n1 else n1 + n2 : Nat) : Int) ∧ Mod (fun _ => False) w ws) (fun _ s11 _ => 2 - (intOf s11).toNat)
  case atStart => exact ⟨0, by omega, rfl, rfl, Mod.refl _ _⟩
  case round =>
    obtain ⟨i, hi, rfl, rfl, hm⟩ := hrel
    have kg := hm.at0 kg
    rcases (by omega : i = 0 ∨ i = 1 ∨ i = 2) with rfl | rfl | rfl
    · simp only [if_true]
      have hw : IntKind.i64.wrap (0 + (n1 : Int)) = (n1 : Int) := (IntWalk.i64_in _ (by omega)).trans (by omega)
      go_wp2_with fail
      go_roundw
      case rel => exact ⟨1, by omega, by go_num, by simp, hm⟩
      case measure => simp [intOf]
    · simp only [Nat.one_ne_zero, if_false, if_true]
      obtain ⟨n3, hn3⟩ : ∃ n3, n1 + n2 = n3 := ⟨_, rfl⟩
      have hw : IntKind.i64.wrap ((n1 : Int) + (n2 : Int)) = (n3 : Int) := (IntWalk.i64_in _ (by omega)).trans (by omega)
      have HN3 := Lib.hid hn3
      have hd : decide ((n3 : Int) < 0) = false := decide_eq_false (by omega)
      clear hn3
      go_wp2_with fail
      go_roundw
      case rel => exact ⟨2, by omega, by go_num, by rw [HN3.out]; rfl, hm⟩
      case measure => simp [intOf]
    · simp only [show ¬ (2 : Nat) = 0 by omega, show ¬ (2 : Nat) = 1 by omega, if_false]
      obtain ⟨n3, hn3⟩ : ∃ n3, n1 + n2 = n3 := ⟨_, rfl⟩
      have hn3p : 0 < n3 ∧ n3 ≤ 1000000000 := by omega
      rw [hn3]
      clear hn3
      go_wp2_with fail
      go_at_call 88
      refine (grow0_c n3 _ hn3p.1 hn3p.2).mono ?_
      rintro e w2 ⟨v2, rfl, hO2, m2⟩
      have HO2 : Hid (SlOwn uc 1 5 w2 w.heap.size v2 []) := Lib.hid (hO2.baseLe hm.size)
      have hm2 := hm.then0 m2
      replace kg := m2.at0 kg
      have KG := Lib.hid kg
      have HM2 := Lib.hid hm2
      clear hO2 m2 kg hm2
      go_wp2_with fail
      go_loopw [6, 27] (fun s6 s27 ws => ∃ i : Nat, i ≤ 2 ∧ s27 = .int .i64 (i : Int) ∧ Hid (SlOwn uc 1 5 ws w.heap.size s6 (if i = 0 then [] else if i = 1 then s1.l else s1.l ++ s2.l)) ∧ Mod (fun i => w.heap.size ≤ i ∧ i ≠ g) w2 ws) (fun _ s27 _ => 2 - (intOf s27).toNat)
      case atStart => exact ⟨0, by omega, rfl, Lib.hid (by simpa using HO2.out), Mod.refl _ _⟩
      case round =>
        obtain ⟨i, hi, rfl, HO, hm3⟩ := hrel
        have kg := hm3.at KG.out (fun h => h.2 rfl)
        have hmw : Mod (fun _ => False) w wr := HM2.out.then hm3 (fun j hj e => by omega)
        have hgne : ∀ {v : Value} {l : List UInt8}, SlOwn uc 1 5 wr w.heap.size v l → ∀ j, v.ownBlock = some j → j ≠ g := fun hO j hj e => by
          obtain ⟨cur, hk⟩ := own_blk hO hj
          rw [e, kg] at hk
          cases hk
        rcases (by omega : i = 0 ∨ i = 1 ∨ i = 2) with rfl | rfl | rfl
        · simp only [if_true] at HO
          go_upto_region 13 with fail
          refine wp_pass0 (C := fun _ _ _ => False) (κ := fun i => [0, 0, 5, 0].getD i 0) [0, 1, 2, 3] (by kernel_rfl) (by kernel_rfl) (fun _ _ d _ _ h => by cases d <;> first | exact h | exact absurd h (hP _ _ _)) ?_
          (refine TD.val0 (v := ?v12) (by simp only [zA, zB, zC]; rfl) rfl ?hw12 (fun w1 => ?hy12) ?hn12; (case hw12 => rfl); (case hy12 => (go_simp; (try with_reducible rfl))); (try simp only [Act.put, zF, zG, zH]))
          (refine TD.val0 (v := ?v13) (by simp only [zA, zB, zC]; rfl) rfl ?hw13 (fun w1 => ?hy13) ?hn13; (case hw13 => rfl); (case hy13 => (go_simp; (try with_reducible rfl))); (try simp only [Act.put, zF, zG, zH]))
          refine TD.eff (by simp only [zA, zB, zC]; rfl) rfl (fun w5 hr => ?_)
          have m5 := hr.mod
          have hO := HO.out.mod0 m5
          obtain ⟨v4, w4, hap, hO4, m4, hn4⟩ := SlOwn.append bytesT (q := s1.l) (c := s1.c) hO (HS.out.1.mod0 (hmw.then0 m5)) (by have h1 := HL.out.1; have h2 := HL.out.2; (try simp only [List.length_nil]); omega) (by decide) (hmw.then0 m5).size 22
          rw [HL.out.1] at hap
          have HO4 := Lib.hid hO4
          have hm4 := (hm3.then0 m5).trans (m4.mono (fun j hj e => ⟨(hO.lt j e).1, hgne HO.out j e⟩))
          clear hO4 m4 hn4 hO hr m5
          (refine eff_append (by simp only [zA, zB, zC]; rfl) ?hw15 rfl ?hx15 ?hz15 hap ?hn15; (case hw15 => rfl); (case hx15 => (simp only [Act.eval, zD, zA, zB, zC, zE]; (try rfl))); (case hz15 => (simp only [Act.eval, zD, zA, zB, zC, zE]; (try rfl))); (try simp only [Act.put, zF, zG, zH]))
          (refine TE.val0 (v := ?v16) (by simp only [zA, zB, zC]; rfl) ?hw16 (fun w1 => ?hy16) ?hn16; (case hw16 => rfl); (case hy16 => (go_simp; (try with_reducible rfl))); (try simp only [Act.put, zF, zG, zH]))
          refine TE.nil ?_
          go_wp2_with fail
          go_roundw
          case rel => exact ⟨1, by omega, by go_num, Lib.hid (by simpa using HO4.out), hm4⟩
          case measure => simp [intOf]
        · simp only [Nat.one_ne_zero, if_false, if_true] at HO
          go_upto_region 13 with fail
          refine wp_pass0 (C := fun _ _ _ => False) (κ := fun i => [0, 0, 5, 0].getD i 0) [0, 1, 2, 3] (by kernel_rfl) (by kernel_rfl) (fun _ _ d _ _ h => by cases d <;> first | exact h | exact absurd h (hP _ _ _)) ?_
          (refine TD.val0 (v := ?v17) (by simp only [zA, zB, zC]; rfl) rfl ?hw17 (fun w1 => ?hy17) ?hn17; (case hw17 => rfl); (case hy17 => (go_simp; (try with_reducible rfl))); (try simp only [Act.put, zF, zG, zH]))
          (refine TD.val0 (v := ?v18) (by simp only [zA, zB, zC]; rfl) rfl ?hw18 (fun w1 => ?hy18) ?hn18; (case hw18 => rfl); (case hy18 => (go_simp; (try with_reducible rfl))); (try simp only [Act.put, zF, zG, zH]))
          refine TD.eff (by simp only [zA, zB, zC]; rfl) rfl (fun w5 hr => ?_)
          have m5 := hr.mod
          have hO := HO.out.mod0 m5
          obtain ⟨v4, w4, hap, hO4, m4, hn4⟩ := SlOwn.append bytesT (q := s2.l) (c := s2.c) hO (HS.out.2.mod0 (hmw.then0 m5)) (by have h1 := HL.out.1; have h2 := HL.out.2; (try simp only [List.length_nil]); omega) (by decide) (hmw.then0 m5).size 22
          rw [HL.out.2] at hap
          have HO4 := Lib.hid hO4
          have hm4 := (hm3.then0 m5).trans (m4.mono (fun j hj e => ⟨(hO.lt j e).1, hgne HO.out j e⟩))
          clear hO4 m4 hn4 hO hr m5
          (refine eff_append (by simp only [zA, zB, zC]; rfl) ?hw20 rfl ?hx20 ?hz20 hap ?hn20; (case hw20 => rfl); (case hx20 => (simp only [Act.eval, zD, zA, zB, zC, zE]; (try rfl))); (case hz20 => (simp only [Act.eval, zD, zA, zB, zC, zE]; (try rfl))); (try simp only [Act.put, zF, zG, zH]))
          (refine TE.val0 (v := ?v21) (by simp only [zA, zB, zC]; rfl) ?hw21 (fun w1 => ?hy21) ?hn21; (case hw21 => rfl); (case hy21 => (go_simp; (try with_reducible rfl))); (try simp only [Act.put, zF, zG, zH]))
          refine TE.nil ?_
          go_wp2_with fail
          go_roundw
          case rel => exact ⟨2, by omega, by go_num, Lib.hid (by simpa using HO4.out), hm4⟩
          case measure => simp [intOf]
        · simp only [show ¬ (2 : Nat) = 0 by omega, show ¬ (2 : Nat) = 1 by omega, if_false] at HO
          go_wp2_with fail
          go_ret
          exact ⟨_, rfl, HO.out, hmw⟩
def leB (n : UInt64) : List UInt8 := (List.range 8).map (fun i => UInt8.ofNat (n.toNat / 256 ^ i))
set_option maxRecDepth 20000 in
theorem cloneNil_c (w : World) : Calls Tryz.prog 89 #[.slice none 0 0] w fun e w' => e = .returned (.slice none 0 0) ∧ w = w' := by
  have he : ∀ w, (binOp .eql 22 (.slice none 0 0) (.slice none 0 0)).run Tryz.prog w = .ok (.bool true) w := fun w => by kernel_rfl
  go_enter Tryz.func89, Tryz.ntmps89
  go_wp2_with fail
  go_ret
  exact ⟨rfl, rfl⟩
set_option maxRecDepth 20000 in
theorem clipB_c (v2 : Value) (w : World) (n : Nat) {a : Option Addr} {c : Nat} (h : ∀ w2, (Instr.sliceAt 22 (.slice a n c) none (some (.int .i64 (n : Int))) (some (.int .i64 (n : Int)))).run Tryz.prog w2 = .ok v2 w2) :
    Calls Tryz.prog 54 #[.slice a n c] w fun e w' => e = .returned v2 ∧ w' = w := by
  go_enter Tryz.func54, Tryz.ntmps54
  go_wp2_with fail
  go_ret
  exact ⟨rfl, rfl⟩
theorem bsU8 (x : UInt8) (w : World) : (Instr.buildSlice 22 1 #[(0, u8v x)]).run Tryz.prog w = .ok (.slice (some ⟨w.heap.size, 0, none⟩) 1 1) (w.alloc (.cells #[u8v x] 5)) := by kernel_rfl
theorem leB_at (n : UInt64) {i : Nat} (h : i < 8) : (leB n).take (i + 1) = (leB n).take i ++ [UInt8.ofNat (n.toNat / 256 ^ i)] := by
  rw [List.take_add_one]
  congr 1
  simp [leB, h]
theorem leB_len (n : UInt64) : (leB n).length = 8 := by simp [leB]
theorem byte_cast (n : UInt64) (i : Nat) : IntKind.u8.wrap ((n.toNat : Int) / 2 ^ (8 * (i : Int)).toNat) = ((UInt8.ofNat (n.toNat / 256 ^ i)).toNat : Int) := by
  rw [show (8 * (i : Int)).toNat = 8 * i by omega, show (2 : Int) ^ (8 * i) = ((256 ^ i : Nat) : Int) by rw [Int.pow_mul, show (2 : Int) ^ 8 = 256 from rfl]; exact (Int.natCast_pow 256 i).symm, ← Int.natCast_ediv, IntKind.wrap_u8, UInt8.toNat_ofNat']
  generalize n.toNat / 256 ^ i = z
  rw [show 2 ^ 8 = 256 from rfl]
  omega
set_option maxRecDepth 20000 in
set_option maxHeartbeats 6400000 in
theorem put8_c (n : UInt64) (w : World) : Calls Tryz.prog 51 #[.slice none 0 0, u64v n, .int .i64 8] w fun e w' => ∃ v, e = .returned v ∧ NewS uc 1 5 w.heap.size w' v (leB n) ∧ Mod (fun _ => False) w w' := by
  go_enter Tryz.func51, Tryz.ntmps51
  go_wp2_with fail
  go_at_call 89
  refine (cloneNil_c _).mono ?_
  rintro e w1 ⟨rfl, rfl⟩
  go_wp2_with fail
  go_loopw [7, 18] (fun s7 s18 ws => ∃ i : Nat, i ≤ 8 ∧ s18 = .int .i64 (i : Int) ∧ Hid (SlOwn uc 1 5 ws w.heap.size s7 ((leB n).take i)) ∧ Mod (fun _ => False) w ws) (fun _ s18 _ => 8 - (intOf s18).toNat)
  case atStart => exact ⟨0, by omega, rfl, Lib.hid (by rw [List.take_zero]; exact SlOwn.nil _ _), Mod.refl _ _⟩
  case round =>
    obtain ⟨i, hi, rfl, HO, hm⟩ := hrel
    by_cases hlt : i < 8
    · have hd := decide_eq_true hlt
      have hw8 : IntKind.i64.wrap (8 * (i : Int)) = 8 * (i : Int) := IntWalk.i64_in _ (by omega)
      obtain ⟨x, hx⟩ : ∃ x, UInt8.ofNat (n.toNat / 256 ^ i) = x := ⟨_, rfl⟩
      have hcast : IntKind.u8.wrap ((n.toNat : Int) / 2 ^ (8 * (i : Int)).toNat) = (x.toNat : Int) := by rw [← hx]; exact byte_cast n i
      have HX : Hid ((leB n).take (i + 1) = (leB n).take i ++ [x]) := Lib.hid (by rw [← hx]; exact leB_at n hlt)
      clear hx
      have hlen : ((leB n).take i).length = i := by rw [List.length_take, leB_len]; omega
      obtain ⟨a2, c2, rfl, _⟩ := HO.out.at bytesT
      rw [hlen]
      have HLN := Lib.hid hlen
      clear hlen
      go_upto_region 7 with fail
      refine wp_pass0 (C := fun _ _ _ => False) (κ := fun i => [0, 0, 0, 0, 0, 0, 3, 5, 0].getD i 0) [0, 1, 2, 3, 4, 5, 6, 7, 8] (by kernel_rfl) (by kernel_rfl) (fun _ _ d _ _ h => by cases d <;> first | exact h | exact absurd h (hP _ _ _)) ?_
      (refine TD.val0 (v := ?v22) (by simp only [zA, zB, zC]; rfl) rfl ?hw22 (fun w1 => ?hy22) ?hn22; (case hw22 => rfl); (case hy22 => (go_simp; (try with_reducible rfl))); (try simp only [Act.put, zF, zG, zH]))
      (refine TD.val0 (v := ?v23) (by simp only [zA, zB, zC]; rfl) rfl ?hw23 (fun w1 => ?hy23) ?hn23; (case hw23 => rfl); (case hy23 => (go_simp; (try with_reducible rfl))); (try simp only [Act.put, zF, zG, zH]))
      (refine TD.val0 (v := ?v24) (by simp only [zA, zB, zC]; rfl) rfl ?hw24 (fun w1 => ?hy24) ?hn24; (case hw24 => rfl); (case hy24 => (go_simp; (try with_reducible rfl))); (try simp only [Act.put, zF, zG, zH]))
      (refine TD.val0 (v := ?v25) (by simp only [zA, zB, zC]; rfl) rfl ?hw25 (fun w1 => ?hy25) ?hn25; (case hw25 => rfl); (case hy25 => (go_simp; (try with_reducible rfl))); (try simp only [Act.put, zF, zG, zH]))
      (refine TD.val0 (v := ?v26) (by simp only [zA, zB, zC]; rfl) rfl ?hw26 (fun w1 => ?hy26) ?hn26; (case hw26 => rfl); (case hy26 => (go_simp; (try with_reducible rfl))); (try simp only [Act.put, zF, zG, zH]))
      (refine TD.val0 (v := ?v27) (by simp only [zA, zB, zC]; rfl) rfl ?hw27 (fun w1 => ?hy27) ?hn27; (case hw27 => rfl); (case hy27 => (go_simp; (try with_reducible rfl))); (try simp only [Act.put, zF, zG, zH]))
      (refine TD.bslice (by simp only [zA, zB, zC]; rfl) rfl ?hw28 rfl rfl ?hx28 (bsU8 x) (fun p27 hp27 => ?hn28); (case hw28 => rfl); (case hx28 => (simp only [List.map_toArray, List.map_cons, List.map_nil, Act.eval, zD, zA, zB, zC, zE]; (try rfl))); (try simp only [Act.put, zF, zG, zH]))
      refine TD.eff (by simp only [zA, zB, zC]; rfl) rfl (fun w4 hr => ?_)
      have kp27 := hr.box p27 _ (by first | exact Bx.set_same _ _ _ | (simp only [Bx.set_same]; rfl)); dsimp only [Value.cells] at kp27; obtain ⟨gp27, kp27⟩ := kp27
      have m4 := hr.mod
      clear hr
      obtain ⟨v5, w5, hap, hO5, m5, hn5⟩ := SlOwn.append bytesT (q := [x]) (c := 1) (HO.out.mod0 m4) (SlAt.one kp27 x rfl rfl) (by rw [HLN.out]; simp only [List.length_singleton]; omega) (by decide) (Nat.le_trans hm.size m4.size) 22
      have hlo := HO.out.lt
      rw [HLN.out] at hap m5 hlo
      have hm5 : Mod (fun _ => False) w w5 := (hm.then0 m4).then m5 (fun j hj e => by have := (hlo j e).1; omega)
      have HO5 : Hid (SlOwn uc 1 5 w5 w.heap.size v5 ((leB n).take (i + 1))) := Lib.hid (by rw [HX.out]; exact hO5)
      clear hO5 m5 m4 hn5 hlo
      (refine eff_append (by simp only [zA, zB, zC]; rfl) ?hw30 rfl ?hx30 ?hz30 hap ?hn30; (case hw30 => rfl); (case hx30 => (simp only [Act.eval, zD, zA, zB, zC, zE]; (try rfl))); (case hz30 => (simp only [Act.eval, zD, zA, zB, zC, zE]; (try rfl))); (try simp only [Act.put, zF, zG, zH]))
      (refine TE.val0 (v := ?v31) (by simp only [zA, zB, zC]; rfl) ?hw31 (fun w1 => ?hy31) ?hn31; (case hw31 => rfl); (case hy31 => (go_simp; (try with_reducible rfl))); (try simp only [Act.put, zF, zG, zH]))
      refine TE.nil ?_
      go_wp2_with fail
      go_roundw
      case rel => exact ⟨i + 1, by omega, by go_num, HO5, hm5⟩
      case measure => simp [intOf]; omega
    · have hd := decide_eq_false hlt
      obtain rfl : i = 8 := by omega
      obtain ⟨a2, c2, v2, rfl, hcl, hN⟩ := HO.out.clip bytesT
      rw [show (leB n).take 8 = leB n from List.take_of_length_le (by rw [leB_len]; omega)] at hcl hN
      rw [show (leB n).take 8 = leB n from List.take_of_length_le (by rw [leB_len]; omega)]
      have HNN := Lib.hid hN
      have HCL := Lib.hid hcl
      clear hcl hN
      go_wp2_with fail
      go_at_call 54
      refine (clipB_c v2 _ _ HCL.out).mono ?_
      rintro e w5 ⟨rfl, rfl⟩
      go_wp2_with fail
      go_ret
      exact ⟨_, rfl, HNN.out, hm⟩
end Go.Proofs.YtofpnmoeimjnnaaGreat
namespace Go.Proofs.YtofpnmoeimjnnaaGreat
open Go.RowKit
open Go.ChangeMaps (setBlock)
set_option linter.unusedSimpArgs false
set_option linter.unusedVariables false
attribute [local go_sem ↓] wlKey ldKey stKey wlAcct ldAcct stAcct wlHold ldHold stHold wlHash ldHash stHash wlSig ldSig stSig wlLim ldLim stLim wlRdy ldRdy stRdy wlOut ldOut stOut wlTd ldTd stTd wlTx ldTx stTx eqKey1
attribute [local go_sem] eqMap neMap av_size av_all av_one hd_size hd_key hd_acct hd_all hd_one zKey_size zAcct_size zHold_size zHash_size zSg_size zLim_size zRdy_size zOut_size zTried_size zTx_size cell_blk frozen_blk kc_ext one_int one_bool one_ptr one_slice one_map kc_one kc_one0 kc_size sgc_size sgc_ext sgc_one0 sgc_one' rdr_size rdr_all rdr_one rdr_tx rdr_rec rdr0 rdr1 rdr6 rdr39 rdr40 rdr41 rdr0' rdr1' rdr6' rdr39' rdr40' rdr41' ocr_size ocr_all ocr_one ocr2 ocr3 ocr4 ocr5 ocr2' ocr3' ocr4' ocr5' tdr_size tdr_all tdr_one tdr_r tdr_o tdr_tx tdr_rec tdr0 tdr1 tdr41 tdr50 tdr51 tdr52 tdr53 tdr0' tdr1' tdr41' tdr50' tdr51' tdr52' tdr53' txr_size txr_all txr_one txr0 txr38 txr39 txr0' txr38' txr39' Value.cells
theorem NewS.form {α : Type} {f : α → Array Value} {n : Nat} {E : TypeId} {base : Nat} {w : World} {v : Value} {l : List α} (h : NewS f n E base w v l) : ∃ a, v = .slice a l.length l.length := by
  obtain ⟨a, e, _⟩ := h.at
  exact ⟨a, e⟩
theorem ldOutAt {w : World} {p : Nat} {k : OcR} {U : TypeId} (h : w.heap[p]? = some (.cells (ocr k) U (0, 0))) : (Instr.loadAt 77 (.pointer (some ⟨p, 0, none⟩))).run Tryz.prog w = .ok (.agg (ocr k)) w := by
  rw [ldOut, h]
  simp [ocr_size, ocr_all]
def OcNew (base : Nat) (w : World) (o o2 : OcR) : Prop := o2.pl = o.pl ∧ NewS hd 66 169 base w o2.ch.v o2.ch.l
set_option maxRecDepth 20000 in
set_option maxHeartbeats 1600000 in
theorem own_c (o : OcR) (w : World) (hs : SlAt hd 66 w o.ch.a o.ch.l) (hn : o.ch.l.length ≤ 1000000) : Calls Tryz.prog 48 #[.agg (ocr o)] w fun e w' => ∃ o2 : OcR, e = .returned (.agg (ocr o2)) ∧ OcNew w.heap.size w' o o2 ∧ Mod (fun _ => False) w w' := by
  have HS := Lib.hid hs
  clear hs
  go_enter Tryz.func48, Tryz.ntmps48
  go_upto_region 0 with fail
  refine wp_pass0 (C := fun _ _ _ => False) (κ := fun i => [3, 3].getD i 0) [0, 1] (by kernel_rfl) (by kernel_rfl) (fun _ _ d _ _ h => by cases d <;> first | exact h | exact absurd h (hP _ _ _)) ?_
  (refine TD.box (v := ?v1) (by simp only [zA, zB, zC]; rfl) rfl ?hw1 rfl rfl ?hx1 (fun p1 hp1 => ?hn1); (case hw1 => rfl); (case hx1 => (simp only [Act.eval, zD, zA, zB, zC, zE]; (try rfl))); (try simp only [Act.put, zF, zG, zH]))
  (refine TD.allocB (by simp only [zA, zB, zC]; rfl) rfl ?hw2 rfl rfl alOut (fun p2 hp2 => ?hn2); (case hw2 => rfl); (try simp only [Act.put, zF, zG, zH]))
  obtain ⟨ne_p2_p1, hp2⟩ := Bx.set_none hp2
  refine TD.nil (fun w1 hr => ?_)
  have kp1 := hr.box p1 _ (by first | exact Bx.set_same _ _ _ | (simp only [Bx.set_ne _ (Ne.symm ne_p2_p1), Bx.set_ne _ ne_p2_p1, Bx.set_same]; rfl)); dsimp only [Value.cells] at kp1; obtain ⟨gp1, kp1⟩ := kp1
  have kp2 := hr.box p2 _ (by first | exact Bx.set_same _ _ _ | (simp only [Bx.set_ne _ (Ne.symm ne_p2_p1), Bx.set_ne _ ne_p2_p1, Bx.set_same]; rfl)); dsimp only [Value.cells] at kp2; obtain ⟨gp2, kp2⟩ := kp2
  have m1 := hr.mod
  have h12 : p2 ≠ p1 := ne_p2_p1
  clear hr
  go_upto_region 1 with fail
  go_wp2_with fail
  go_at_call 85
  refine (cloneH_c (c := o.ch.c) (HS.out.mod0 m1) hn).mono ?_
  rintro e w2 ⟨v1, rfl, hO, m2⟩
  obtain ⟨a1, c1, v2, rfl, hcl, hN⟩ := hO.clip holdT
  obtain ⟨a2, hv2⟩ := hN.form
  replace kp1 := m2.at0 kp1
  replace kp2 := m2.at0 kp2
  have HC := Lib.hid hcl
  have HN := Lib.hid (hN.base m1.size)
  have HM := Lib.hid (m1.then0 m2)
  have HLT := Lib.hid (And.intro (lt_size kp1) (And.intro (lt_size kp2) m1.size))
  have HK := Lib.hid (And.intro kp1 kp2)
  have hg1 := gp1
  have hg2 := gp2
  clear hcl hO hN m1 m2
  go_wp2_with fail
  go_at_call 84
  refine (clipH_c v2 _ _ HC.out).mono ?_
  rintro e w3 ⟨rfl, rfl⟩
  subst hv2
  obtain ⟨o2, ho2⟩ : ∃ o2 : OcR, o2 = { o with ch := ⟨a2, o.ch.l, o.ch.l.length⟩ } := ⟨_, rfl⟩
  have hset : (ocr o).setIfInBounds 5 (.slice a2 o.ch.l.length o.ch.l.length) = ocr o2 := by rw [ho2]; exact ocr_set5 o a2 o.ch.l _ _ rfl
  have HSET := Lib.hid hset
  have HO2 : Hid (o2.pl = o.pl ∧ o2.ch.v = .slice a2 o.ch.l.length o.ch.l.length ∧ o2.ch.l = o.ch.l) := Lib.hid (by rw [ho2]; exact ⟨rfl, rfl, rfl⟩)
  clear hset ho2
  go_upto_region 2 with fail
  rw [setCell_blk kp1, HSET.out]
  obtain ⟨w4, k4, m4, e4⟩ : ∃ w4, w4.heap[p1]? = some (.cells (ocr o2) 77 (0, 0)) ∧ Mod (fun i => i = p1) w3 w4 ∧ setBlock w3 p1 (.cells (ocr o2) 77 (0, 0)) = w4 := ⟨_, heap_setBlock _ _ (lt_size kp1), mod_set _ _ _, rfl⟩
  rw [e4]
  replace kp2 := m4.at_ne kp2 h12
  have HM4 := Lib.hid (And.intro m4 (HM.out.thenB m4 (.inl hg1)))
  clear e4 m4 kp1
  have Lk4 := lt_size k4
  have Lkp2 := lt_size kp2
  refine wp_pass0 (C := fun _ _ _ => False) (κ := fun i => [1, 5].getD i 0) [0, 1] (by kernel_rfl) (by kernel_rfl) (fun _ _ d _ _ h => by cases d <;> first | exact h | exact absurd h (hP _ _ _)) ?_
  (refine TD.load (v := ?v3) (p := ?p3) (Mod.refl _ _) (by simp only [zA, zB, zC]; rfl) rfl ?hw3 rfl ?hx3 (fun wq hSq => ?hy3) ?hn3; (case hw3 => rfl); (case hx3 => (simp only [Act.eval, zD, zA, zB, zC, zE]; (try rfl))); (case hy3 => (have k4q := hSq.at k4 (fun h => h); have kp2q := hSq.at kp2 (fun h => h); exact (ldOutAt k4q))); (try simp only [Act.put, zF, zG, zH]))
  refine TD.eff (by simp only [zA, zB, zC]; rfl) rfl (fun wE hr => ?_)
  replace k4 := hr.mod.at0 k4
  replace kp2 := hr.mod.at0 kp2
  have mE := hr.mod
  (refine eff_store (X := ?X4) (Y := ?Y4) (w' := ?w4) (by simp only [zA, zB, zC]; rfl) ?hw4 rfl ?hx4 ?hz4 ?hy4 ?hn4; (case hw4 => rfl); (case hx4 => (simp only [Act.eval, zD, zA, zB, zC, zE]; (try rfl))); (case hz4 => (simp only [Act.eval, zD, zA, zB, zC, zE]; (try rfl))); (case hy4 => (go_simp; (try with_reducible rfl))))
  (first | refine TE.nil_set kp2 (fun w5 kp2 mS => ?_) | refine TE.nil_setCell kp2 (fun w5 kp2 mS => ?_))
  (try simp only [Array.setIfInBounds, zF, zG, zH] at kp2)
  replace k4 := mS.at_ne k4 (by omega)
  have m5 := ((mE.mono (T := fun i => i = p2) (fun _ _ h => h.elim)).trans mS)
  have m6 := HM4.out.2.thenB m5 (.inl hg2)
  have HE : Hid (OcNew w.heap.size w5 o o2) := Lib.hid ⟨HO2.out.1, by
    rw [HO2.out.2.1, HO2.out.2.2]
    have hne : ∀ g, (Value.slice a2 o.ch.l.length o.ch.l.length).ownBlock = some g → g ≠ p1 ∧ g ≠ p2 := fun g hg => by
      rcases HN.out with ⟨e, _⟩ | ⟨g', cur, e, _, hk, _⟩
      · rw [e] at hg
        cases hg
      · rw [e] at hg
        cases hg
        refine ⟨fun e => ?_, fun e => ?_⟩
        · have h1 := HK.out.1
          rw [← e, hk] at h1
          injection (Option.some.inj h1) with h3 h4
          exact absurd h4 (by decide)
        · have h1 := HK.out.2
          rw [← e, hk] at h1
          injection (Option.some.inj h1) with h3 h4
          exact absurd h4 (by decide)
    exact (HN.out.mod HM4.out.1 (fun g hg => (hne g hg).1)).mod m5 (fun g hg => (hne g hg).2)⟩
  clear hr mE mS
  go_wp2_with fail
  exact bodyPost_ret (results_cell1 (v := .agg (ocr o2)) rfl rfl (by rw [ldOut]; simp [kp2, ocr_size, ocr_all])) rfl ⟨o2, rfl, HE.out, m6⟩
end Go.Proofs.YtofpnmoeimjnnaaGreat
namespace Go.Proofs.YtofpnmoeimjnnaaGreat
open Go.RowKit
open Go.ChangeMaps (setBlock)
set_option linter.unusedSimpArgs false
set_option linter.unusedVariables false
attribute [local go_sem ↓] wlKey ldKey stKey wlAcct ldAcct stAcct wlHold ldHold stHold wlHash ldHash stHash wlSig ldSig stSig wlLim ldLim stLim wlRdy ldRdy stRdy wlOut ldOut stOut wlTd ldTd stTd wlTx ldTx stTx eqKey1
attribute [local go_sem] eqMap neMap av_size av_all av_one hd_size hd_key hd_acct hd_all hd_one zKey_size zAcct_size zHold_size zHash_size zSg_size zLim_size zRdy_size zOut_size zTried_size zTx_size cell_blk frozen_blk kc_ext one_int one_bool one_ptr one_slice one_map kc_one kc_one0 kc_size sgc_size sgc_ext sgc_one0 sgc_one' rdr_size rdr_all rdr_one rdr_tx rdr_rec rdr0 rdr1 rdr6 rdr39 rdr40 rdr41 rdr0' rdr1' rdr6' rdr39' rdr40' rdr41' ocr_size ocr_all ocr_one ocr2 ocr3 ocr4 ocr5 ocr2' ocr3' ocr4' ocr5' tdr_size tdr_all tdr_one tdr_r tdr_o tdr_tx tdr_rec tdr0 tdr1 tdr41 tdr50 tdr51 tdr52 tdr53 tdr0' tdr1' tdr41' tdr50' tdr51' tdr52' tdr53' txr_size txr_all txr_one txr0 txr38 txr39 txr0' txr38' txr39' Value.cells
theorem bsOut (x : OcR) (w : World) : (Instr.buildSlice 80 1 #[(0, .agg (ocr x))]).run Tryz.prog w = .ok (.slice (some ⟨w.heap.size, 0, none⟩) 1 1) (w.alloc (.cells (ocr x) 77)) := by
  obtain ⟨i0, hi, hz0, hz1, hz2⟩ := info_parts (show (Tryz.prog.info? 77).map (fun i => (i.zero, i.size, i.bytes)) = some (some (.agg zOut), 6, 64) by kernel_rfl)
  refine run_buildSlice w _ _ 1 _ _ i0 _ Tryz.underlying80 hi hz0 (by rw [hz1]; omega) (by rw [hz1]; omega) ?_
  rw [hz1]
  show Instr.fill _ _ [(0, _)] = _
  rw [fill_cons (off := 0) (n := 6) rfl (by simp [Value.cells, ocr_size]) (by simp [Value.cells, zOut_size, size_madeCells])]
  show some (wr _ 0 (ocr x).toList) = _
  rw [wr_whole (ocr x) _ (by simp [Value.cells, zOut_size, ocr_size, size_madeCells])]
theorem bsBs1 (a : Option Addr) (n c : Nat) (w : World) : (Instr.buildSlice 91 1 #[(0, .slice a n c)]).run Tryz.prog w = .ok (.slice (some ⟨w.heap.size, 0, none⟩) 1 1) (w.alloc (.cells #[.slice a n c] 22)) := by kernel_rfl
theorem bsBs2 (a a2 : Option Addr) (n c n2 c2 : Nat) (w : World) : (Instr.buildSlice 91 2 #[(0, .slice a n c), (1, .slice a2 n2 c2)]).run Tryz.prog w = .ok (.slice (some ⟨w.heap.size, 0, none⟩) 2 2) (w.alloc (.cells #[.slice a n c, .slice a2 n2 c2] 22)) := by kernel_rfl
theorem slsT : ElT Tryz.prog 91 22 (slv (α := UInt8)) 1 24 where
  u := Tryz.underlying91
  info := by
    obtain ⟨i0, hi, hz0, hz1, hz2⟩ := info_parts (show (Tryz.prog.info? 22).map (fun i => (i.zero, i.size, i.bytes)) = some (some (.slice none 0 0), 1, 24) by kernel_rfl)
    exact ⟨i0, _, hi, hz0, hz1, hz2, rfl⟩
  pos := by omega
  size x := rfl
  one x u hu := by
    simp [slv] at hu
    subst hu
    rfl
def NewL {α : Type} (f : α → Array Value) (n : Nat) (E : TypeId) (b : Nat) (l : List α) (v : Value) : Land := fun T w => NewS f n E b w v l ∧ ∀ g, v.ownBlock = some g → T g
theorem goodN {α : Type} (f : α → Array Value) (n : Nat) (E : TypeId) (b : Nat) (l : List α) (v : Value) : Good (NewL f n E b l v) where
  cl := fun T w w' h hm => ⟨h.1.mod hm (fun g hg hn => hn (h.2 g hg)), h.2⟩
  gr := fun T T' w hT h => ⟨h.1, fun g hg => hT g (h.2 g hg)⟩
theorem newL {α : Type} {f : α → Array Value} {n : Nat} {E : TypeId} {b : Nat} {l : List α} {v : Value} {T : Nat → Prop} {w w' : World} (h : NewS f n E w.heap.size w' v l) (hb : b ≤ w.heap.size) : NewL f n E b l v (Grow T w w') w' :=
  ⟨h.base hb, fun g hg => .inr (h.lt g hg)⟩
def OwnL {α : Type} (f : α → Array Value) (n : Nat) (E : TypeId) (b : Nat) (l : List α) (v : Value) : Land := fun T w => SlOwn f n E w b v l ∧ ∀ g, v.ownBlock = some g → T g
theorem goodOL {α : Type} (f : α → Array Value) (n : Nat) (E : TypeId) (b : Nat) (l : List α) (v : Value) : Good (OwnL f n E b l v) where
  cl := fun T w w' h hm => ⟨h.1.mod hm (fun g hg hn => hn (h.2 g hg)), h.2⟩
  gr := fun T T' w hT h => ⟨h.1, fun g hg => hT g (h.2 g hg)⟩
theorem ownL {α : Type} {f : α → Array Value} {n : Nat} {E : TypeId} {b : Nat} {l : List α} {v : Value} {T : Nat → Prop} {w w' : World} (h : SlOwn f n E w' w.heap.size v l) (hb : b ≤ w.heap.size) : OwnL f n E b l v (Grow T w w') w' :=
  ⟨h.baseLe hb, fun g hg => .inr (h.lt g hg)⟩
def OcL (b : Nat) (o : OcR) (v : Value) : Land := fun T w => ∃ o2 : OcR, v = .agg (ocr o2) ∧ o2.pl = o.pl ∧ NewL hd 66 169 b o2.ch.l o2.ch.v T w
theorem goodOc (b : Nat) (o : OcR) (v : Value) : Good (OcL b o v) := Good.ex fun o2 => (Good.pure _).and ((Good.pure _).and (goodN _ _ _ _ _ _))
theorem ocL {b : Nat} {o o2 : OcR} {T : Nat → Prop} {w w' : World} (h : OcNew w.heap.size w' o o2) (hb : b ≤ w.heap.size) : OcL b o (.agg (ocr o2)) (Grow T w w') w' := ⟨o2, rfl, h.1, newL h.2 hb⟩
def RStep (S : BS) (x : TdR) (n : Nat) (S' : BS) : Prop :=
  n = vdN S.en S.H S.N S.L S.b S.sp S.m x ∧ ((n ≠ 0 ∧ S' = S) ∨ (n = 0 ∧ ∃ done : List (Key × UInt64), done.Perm (putAll (adF S.m (coX x)) (wrL x.r.ro.l) []) ∧
    S' = { S with N := markS S.N (firstS x.r.sg.l) x.r.rc, b := sat S.b (coX x), sp := sat S.sp x.o.sp, m := putL done S.m, os := S.os ++ [x.o.pl], fees := sat S.fees x.o.fee }))
inductive RRun : BS → List TdR → List Nat → List UInt8 → Nat → BS → Prop
  | nil (S : BS) : RRun S [] [] [] 0 S
  | snoc {S S1 S2 : BS} {l : List TdR} {vs : List Nat} {e : List UInt8} {k : Nat} {x : TdR} {n : Nat} (h : RRun S l vs e k S1) (hx : RStep S1 x n S2) : RRun S (l ++ [x]) (vs ++ [n]) (if n = 0 then e ++ x.r.b.l else e) (if n = 0 then k + 1 else k) S2
theorem RRun.len {S S' : BS} {l : List TdR} {vs : List Nat} {e : List UInt8} {k : Nat} (h : RRun S l vs e k S') : vs.length = l.length ∧ k ≤ l.length ∧ S'.N.length ≤ S.N.length + l.length ∧ S'.os.length ≤ S.os.length + l.length ∧ e.length ≤ (l.map (fun x => x.r.b.l.length)).sum ∧ S'.es = S.es ∧ S'.en = S.en ∧ S'.H = S.H ∧ S'.L = S.L := by
  induction h with
  | nil => simp
  | snoc h hx ih =>
    obtain ⟨i1, i2, i3, i4, i5, i6, i7, i8, i9⟩ := ih
    rcases hx.2 with ⟨h0, rfl⟩ | ⟨h0, done, _, rfl⟩
    · rw [if_neg h0, if_neg h0]
      simp only [List.length_append, List.length_cons, List.length_nil, List.map_append, List.sum_append, List.map_cons, List.map_nil, List.sum_cons, List.sum_nil]
      exact ⟨by omega, by omega, by omega, by omega, by omega, i6, i7, i8, i9⟩
    · rw [if_pos h0, if_pos h0]
      simp only [List.length_append, List.length_cons, List.length_nil, List.map_append, List.sum_append, List.map_cons, List.map_nil, List.sum_cons, List.sum_nil]
      have := markS_len
      exact ⟨by omega, by omega, Nat.le_trans (this _ _ _) (by omega), by omega, by omega, i6, i7, i8, i9⟩
theorem ownE_ne {α : Type} {f : α → Array Value} {n : Nat} {E U : TypeId} {w : World} {base : Nat} {v : Value} {l : List α} (h : SlOwn f n E w base v l) {a : Nat} {C : Array Value} {fr : Nat × Nat} (ka : w.heap[a]? = some (.cells C U fr)) (hE : E ≠ U) : ∀ g, v.ownBlock = some g → g ≠ a := fun g hg e => by
  obtain ⟨cur, hk⟩ := own_blk h hg
  rw [e, ka] at hk
  injection (Option.some.inj hk) with h1 h2
  exact hE h2.symm
theorem newE_ne {α : Type} {f : α → Array Value} {n : Nat} {E U : TypeId} {w : World} {base : Nat} {v : Value} {l : List α} (h : NewS f n E base w v l) {a : Nat} {C : Array Value} {fr : Nat × Nat} (ka : w.heap[a]? = some (.cells C U fr)) (hE : E ≠ U) : ∀ g, v.ownBlock = some g → g ≠ a := fun g hg e => by
  rcases h with ⟨rfl, _⟩ | ⟨g', cur, rfl, _, hk, _⟩
  · cases hg
  · cases hg
    have e' : g' = a := e
    rw [e', ka] at hk
    injection (Option.some.inj hk) with h1 h2
    exact hE h2.symm
theorem newM_ne {α : Type} {f : α → Array Value} {n : Nat} {E : TypeId} {w : World} {base : Nat} {v : Value} {l : List α} (h : NewS f n E base w v l) {a c : Nat} {es : Array MapEntry} (ka : w.heap[a]? = some (.map es c)) : ∀ g, v.ownBlock = some g → g ≠ a := fun g hg e => by
  rcases h with ⟨rfl, _⟩ | ⟨g', cur, rfl, _, hk, _⟩
  · cases hg
  · cases hg
    have e' : g' = a := e
    rw [e', ka] at hk
    cases hk
end Go.Proofs.YtofpnmoeimjnnaaGreat
namespace Go.Proofs.YtofpnmoeimjnnaaGreat
open Go.RowKit
open Go.ChangeMaps (setBlock)
set_option linter.unusedSimpArgs false
set_option linter.unusedVariables false
attribute [local go_sem ↓] wlKey ldKey stKey wlAcct ldAcct stAcct wlHold ldHold stHold wlHash ldHash stHash wlSig ldSig stSig wlLim ldLim stLim wlRdy ldRdy stRdy wlOut ldOut stOut wlTd ldTd stTd wlTx ldTx stTx eqKey1
attribute [local go_sem] eqMap neMap av_size av_all av_one hd_size hd_key hd_acct hd_all hd_one zKey_size zAcct_size zHold_size zHash_size zSg_size zLim_size zRdy_size zOut_size zTried_size zTx_size cell_blk frozen_blk kc_ext one_int one_bool one_ptr one_slice one_map kc_one kc_one0 kc_size sgc_size sgc_ext sgc_one0 sgc_one' rdr_size rdr_all rdr_one rdr_tx rdr_rec rdr0 rdr1 rdr6 rdr39 rdr40 rdr41 rdr0' rdr1' rdr6' rdr39' rdr40' rdr41' ocr_size ocr_all ocr_one ocr2 ocr3 ocr4 ocr5 ocr2' ocr3' ocr4' ocr5' tdr_size tdr_all tdr_one tdr_r tdr_o tdr_tx tdr_rec tdr0 tdr1 tdr41 tdr50 tdr51 tdr52 tdr53 tdr0' tdr1' tdr41' tdr50' tdr51' tdr52' tdr53' txr_size txr_all txr_one txr0 txr38 txr39 txr0' txr38' txr39' Value.cells
def BkIn (Tn Tr : Nat → Prop) (w : World) (b s : Nat) (S : BS) (q n t m : Nat) (ea : Option Addr) (en ec : Nat) (oa : Option Addr) (on oc : Nat) (er : List (Sl UInt8)) (orr : List OcR) : Prop :=
    w.heap[b]? = some (.cells (blkC s q n t S.en ea en ec oa on oc S.fees) 125 (0, 0)) ∧
    (QuAt w q S.H ∧ SeAt Tn w n S.N ∧ TrAt w t m S.L S.b S.sp S.m) ∧
    (SlOwn slv 1 22 w 0 (.slice ea en ec) er ∧ er.map (·.l) = S.es ∧ ∀ x ∈ er, SlOwn uc 1 5 w 0 x.v x.l) ∧
    (SlOwn ocr 6 77 w 0 (.slice oa on oc) orr ∧ orr.map OcR.pl = S.os ∧ ∀ x ∈ orr, NewS hd 66 169 0 w x.ch.v x.ch.l) ∧
    (Tr b ∧ Tr t ∧ Tr m ∧ ¬ Tr q ∧ ¬ Tn q) ∧
    ((∀ g, (Value.slice ea en ec).ownBlock = some g → Tr g) ∧ (∀ g, (Value.slice oa on oc).ownBlock = some g → Tr g) ∧ (∀ x ∈ er, ∀ g, x.v.ownBlock = some g → Tr g) ∧ (∀ x ∈ orr, ∀ g, x.ch.v.ownBlock = some g → Tr g)) ∧
    (∀ i, Tn i → ¬ Tr i)
section
variable {Tn Tr Tn' : Nat → Prop} {w w' : World} {b s p : Nat} {S : BS} {q n t m : Nat} {ea : Option Addr} {en ec : Nat} {oa : Option Addr} {on oc : Nat} {er : List (Sl UInt8)} {orr : List OcR}
theorem BkAt.in (h : BkAt Tn Tr w b s S) : ∃ q n t m ea en ec oa on oc er orr, BkIn Tn Tr w b s S q n t m ea en ec oa on oc er orr := h
theorem BkIn.at (h : BkIn Tn Tr w b s S q n t m ea en ec oa on oc er orr) : BkAt Tn Tr w b s S := ⟨q, n, t, m, ea, en, ec, oa, on, oc, er, orr, h⟩
def RcS (Tn : Nat → Prop) (b t m p : Nat) (oa : Option Addr) (on oc : Nat) : Nat → Prop := fun i => Tn i ∨ i = b ∨ i = t ∨ i = m ∨ (Value.slice oa on oc).ownBlock = some i ∨ i = p
theorem BkIn.rest (h : BkIn Tn Tr w b s S q n t m ea en ec oa on oc er orr) (hm : Mod (RcS Tn b t m p oa on oc) w w') (hp : ¬ Tr p ∧ ¬ Tn p ∧ q ≠ p) :
    QuAt w' q S.H ∧ SlOwn slv 1 22 w' 0 (.slice ea en ec) er ∧ (∀ x ∈ er, SlOwn uc 1 5 w' 0 x.v x.l) ∧ ∀ x ∈ orr, NewS hd 66 169 0 w' x.ch.v x.ch.l := by
  obtain ⟨kb, ⟨hq, hn, ht⟩, ⟨he1, he2, he3⟩, ⟨ho1, ho2, ho3⟩, ⟨t1, t2, t3, t4, t5⟩, ⟨u1, u2, u3, u4⟩, hd⟩ := h
  obtain ⟨kt, es, cl, km, M⟩ := ht
  refine ⟨hq.mod hm ?_, he1.mod hm ?_, fun x hx => (he3 x hx).mod hm ?_, fun x hx => (ho3 x hx).mod hm ?_⟩
  · rintro (h | rfl | rfl | rfl | h | rfl)
    · exact t5 h
    · exact t4 t1
    · exact t4 t2
    · exact t4 t3
    · exact t4 (u2 _ h)
    · exact hp.2.2 rfl
  · rintro g hg (h | h | h | h | h | rfl)
    · exact hd _ h (u1 g hg)
    · exact ownE_ne he1 kb (by decide) g hg h
    · exact ownE_ne he1 kt (by decide) g hg h
    · exact own_ne he1 km g hg h
    · obtain ⟨C, kc⟩ := own_blk ho1 h
      exact ownE_ne he1 kc (by decide) g hg rfl
    · exact hp.1 (u1 g hg)
  · rintro g hg (h | h | h | h | h | rfl)
    · exact hd _ h (u3 x hx g hg)
    · exact ownE_ne (he3 x hx) kb (by decide) g hg h
    · exact ownE_ne (he3 x hx) kt (by decide) g hg h
    · exact own_ne (he3 x hx) km g hg h
    · obtain ⟨C, kc⟩ := own_blk ho1 h
      exact ownE_ne (he3 x hx) kc (by decide) g hg rfl
    · exact hp.1 (u3 x hx g hg)
  · rintro g hg (h | h | h | h | h | rfl)
    · exact hd _ h (u4 x hx g hg)
    · exact newE_ne (ho3 x hx) kb (by decide) g hg h
    · exact newE_ne (ho3 x hx) kt (by decide) g hg h
    · exact newM_ne (ho3 x hx) km g hg h
    · obtain ⟨C, kc⟩ := own_blk ho1 h
      exact newE_ne (ho3 x hx) kc (by decide) g hg rfl
    · exact hp.1 (u4 x hx g hg)
theorem BkIn.rec (h : BkIn Tn Tr w b s S q n t m ea en ec oa on oc er orr) (hm : Mod (RcS Tn b t m p oa on oc) w w') (hp : ¬ Tr p ∧ ¬ Tn p ∧ q ≠ p) {N' : List (Sg × Key)} {b' sp' f' : UInt64} {m' : List (Key × UInt64)} {oa' : Option Addr} {on' oc' : Nat} {o2 : OcR}
    (kb' : w'.heap[b]? = some (.cells (blkC s q n t S.en ea en ec oa' on' oc' f') 125 (0, 0))) (hn' : SeAt Tn' w' n N') (ht' : TrAt w' t m S.L b' sp' m') (ho' : SlOwn ocr 6 77 w' 0 (.slice oa' on' oc') (orr ++ [o2]))
    (hx : NewS hd 66 169 0 w' o2.ch.v o2.ch.l) (hxn : ∀ g, o2.ch.v.ownBlock = some g → w.heap.size ≤ g ∧ ¬ Tn' g) (hz : ∀ g, (Value.slice oa' on' oc').ownBlock = some g → (Value.slice oa on oc).ownBlock = some g ∨ (w.heap.size ≤ g ∧ ¬ Tn' g)) (hTn : ∀ i, Tn' i → Tn i ∨ w.heap.size ≤ i) (hlt : ∀ i, Tr i → i < w.heap.size) :
    BkAt Tn' (fun i => Tr i ∨ o2.ch.v.ownBlock = some i ∨ (Value.slice oa' on' oc').ownBlock = some i) w' b s { S with N := N', b := b', sp := sp', m := m', os := S.os ++ [o2.pl], fees := f' } := by
  obtain ⟨hq', he1', he3', ho3'⟩ := h.rest hm hp
  obtain ⟨kb, ⟨hq, hn, ht⟩, ⟨he1, he2, he3⟩, ⟨ho1, ho2, ho3⟩, ⟨t1, t2, t3, t4, t5⟩, ⟨u1, u2, u3, u4⟩, hd⟩ := h
  have hql : q < w.heap.size := by
    obtain ⟨R, nx, kq, _⟩ := hq
    exact lt_size kq
  refine ⟨q, n, t, m, ea, en, ec, oa', on', oc', er, orr ++ [o2], kb', ⟨hq', hn', ht'⟩, ⟨he1', he2, he3'⟩, ⟨ho', by simp [ho2], ?_⟩, ⟨.inl t1, .inl t2, .inl t3, ?_, ?_⟩, ⟨fun g hg => .inl (u1 g hg), fun g hg => .inr (.inr hg), fun x hx g hg => .inl (u3 x hx g hg), ?_⟩, ?_⟩
  · intro x hx'
    rcases List.mem_append.1 hx' with h1 | h1
    · exact ho3' x h1
    · rw [List.mem_singleton.1 h1]
      exact hx
  · rintro (h1 | h1 | h1)
    · exact t4 h1
    · have := (hxn q h1).1
      omega
    · rcases hz q h1 with h2 | h2
      · exact t4 (u2 q h2)
      · omega
  · intro h1
    rcases hTn q h1 with h2 | h2
    · exact t5 h2
    · omega
  · intro x hx' g hg
    rcases List.mem_append.1 hx' with h1 | h1
    · exact .inl (u4 x h1 g hg)
    · rw [List.mem_singleton.1 h1] at hg
      exact .inr (.inl hg)
  · rintro i hi (h1 | h1 | h1)
    · rcases hTn i hi with h2 | h2
      · exact hd i h2 h1
      · have := hlt i h1
        omega
    · exact (hxn i h1).2 hi
    · rcases hz i h1 with h2 | h2
      · rcases hTn i hi with h3 | h3
        · exact hd i h3 (u2 i h2)
        · have := hlt i (u2 i h2)
          omega
      · exact h2.2 hi
theorem BkIn.ent (h : BkIn Tn Tr w b s S q n t m ea en ec oa on oc er orr) {ea' : Option Addr} {en' ec' : Nat} {e2 : Sl UInt8} (hm : Mod (fun i => i = b ∨ (Value.slice ea en ec).ownBlock = some i) w w')
    (kb' : w'.heap[b]? = some (.cells (blkC s q n t S.en ea' en' ec' oa on oc S.fees) 125 (0, 0))) (he' : SlOwn slv 1 22 w' 0 (.slice ea' en' ec') (er ++ [e2])) (hx : SlOwn uc 1 5 w' 0 e2.v e2.l) (hxn : ∀ g, e2.v.ownBlock = some g → w.heap.size ≤ g) (hz : ∀ g, (Value.slice ea' en' ec').ownBlock = some g → (Value.slice ea en ec).ownBlock = some g ∨ w.heap.size ≤ g) (hlt : ∀ i, Tn i ∨ Tr i → i < w.heap.size) :
    BkAt Tn (fun i => Tr i ∨ e2.v.ownBlock = some i ∨ (Value.slice ea' en' ec').ownBlock = some i) w' b s { S with es := S.es ++ [e2.l] } := by
  obtain ⟨kb, ⟨hq, hn, ht⟩, ⟨he1, he2, he3⟩, ⟨ho1, ho2, ho3⟩, ⟨t1, t2, t3, t4, t5⟩, ⟨u1, u2, u3, u4⟩, hd⟩ := h
  have hql : q < w.heap.size := by
    obtain ⟨R, nx, kq, _⟩ := hq
    exact lt_size kq
  have hTr : ∀ i, (i = b ∨ (Value.slice ea en ec).ownBlock = some i) → Tr i := fun i hi => by
    rcases hi with rfl | hi
    · exact t1
    · exact u1 i hi
  have ht2 := ht
  obtain ⟨kt, es, cl, km, M⟩ := ht2
  refine ⟨q, n, t, m, ea', en', ec', oa, on, oc, er ++ [e2], orr, kb', ⟨hq.mod hm (fun h => t4 (hTr _ h)), hn.mod hm (fun i hi h => hd i hi (hTr i h)), ht.mod hm ?_ ?_⟩, ⟨he', by simp [he2], ?_⟩, ⟨ho1.mod hm ?_, ho2, fun x hx => (ho3 x hx).mod hm ?_⟩, ⟨.inl t1, .inl t2, .inl t3, ?_, t5⟩, ⟨fun g hg => .inr (.inr hg), fun g hg => .inl (u2 g hg), ?_, fun x hx g hg => .inl (u4 x hx g hg)⟩, ?_⟩
  · rintro (h | h)
    · exact absurd (h ▸ kt) (by rw [kb]; intro h2; injection (Option.some.inj h2) with h3 h4; exact absurd h4 (by decide))
    · exact ownE_ne he1 kt (by decide) _ h rfl
  · rintro (h | h)
    · rw [h, kb] at km
      cases km
    · exact own_ne he1 km _ h rfl
  · intro x hx'
    rcases List.mem_append.1 hx' with h1 | h1
    · refine (he3 x h1).mod hm ?_
      rintro g hg (h | h)
      · exact ownE_ne (he3 x h1) kb (by decide) g hg h
      · obtain ⟨C, kc⟩ := own_blk he1 h
        exact ownE_ne (he3 x h1) kc (by decide) g hg rfl
    · rw [List.mem_singleton.1 h1]
      exact hx
  · rintro g hg (h | h)
    · exact ownE_ne ho1 kb (by decide) g hg h
    · obtain ⟨C, kc⟩ := own_blk he1 h
      exact ownE_ne ho1 kc (by decide) g hg rfl
  · rintro g hg (h | h)
    · exact newE_ne (ho3 x hx) kb (by decide) g hg h
    · obtain ⟨C, kc⟩ := own_blk he1 h
      exact newE_ne (ho3 x hx) kc (by decide) g hg rfl
  · rintro (h1 | h1 | h1)
    · exact t4 h1
    · have := hxn q h1
      omega
    · rcases hz q h1 with h2 | h2
      · exact t4 (u1 q h2)
      · omega
  · intro x hx' g hg
    rcases List.mem_append.1 hx' with h1 | h1
    · exact .inl (u3 x h1 g hg)
    · rw [List.mem_singleton.1 h1] at hg
      exact .inr (.inl hg)
  · rintro i hi (h1 | h1 | h1)
    · exact hd i hi h1
    · have := hxn i h1
      have := hlt i (.inl hi)
      omega
    · rcases hz i h1 with h2 | h2
      · exact hd i hi (u1 i h2)
      · have := hlt i (.inl hi)
        omega
end
end Go.Proofs.YtofpnmoeimjnnaaGreat
namespace Go.Proofs.YtofpnmoeimjnnaaGreat
open Go.RowKit
open Go.ChangeMaps (setBlock)
set_option linter.unusedSimpArgs false
set_option linter.unusedVariables false
attribute [local go_sem ↓] wlKey ldKey stKey wlAcct ldAcct stAcct wlHold ldHold stHold wlHash ldHash stHash wlSig ldSig stSig wlLim ldLim stLim wlRdy ldRdy stRdy wlOut ldOut stOut wlTd ldTd stTd wlTx ldTx stTx eqKey1
attribute [local go_sem] eqMap neMap av_size av_all av_one hd_size hd_key hd_acct hd_all hd_one zKey_size zAcct_size zHold_size zHash_size zSg_size zLim_size zRdy_size zOut_size zTried_size zTx_size cell_blk frozen_blk kc_ext one_int one_bool one_ptr one_slice one_map kc_one kc_one0 kc_size sgc_size sgc_ext sgc_one0 sgc_one' rdr_size rdr_all rdr_one rdr_tx rdr_rec rdr0 rdr1 rdr41 rdr0' rdr1' rdr41' ocr_size ocr_all ocr_one ocr2 ocr3 ocr4 ocr5 ocr2' ocr3' ocr4' ocr5' tdr_size tdr_all tdr_one tdr_r tdr_o tdr_tx tdr_rec tdr0 tdr1 tdr41 tdr50 tdr51 tdr52 tdr53 tdr0' tdr1' tdr41' tdr50' tdr51' tdr52' tdr53' txr_size txr_all txr_one txr0 txr38 txr39 txr0' txr38' txr39' Value.cells
theorem verdictE_c {b s q n t : Nat} {ea : Option Addr} {en ec : Nat} {oa : Option Addr} {on oc : Nat} {f : UInt64} (x : TdR) (w : World) (kb : w.heap[b]? = some (.cells (blkC s q n t true ea en ec oa on oc f) 125 (0, 0))) :
    Calls Tryz.prog 46 #[ptrV b, .agg (tdr x)] w fun e w' => e = .returned (.int .i64 23) ∧ Mod (fun _ => False) w w' := by
  refine (verdict_g (b := b) (x := x) (w := w) (v1 := 23) (v2 := 0) (R := fun _ _ _ => True) (fun p w1 hp hm => (step1_c (e := true) w1 (hm.at0 kb) hp).mono ?_) (fun h => by cases h) (fun h => by cases h)).mono ?_
  · rintro e w' ⟨rfl, rfl⟩
    exact ⟨rfl, Mod.refl _ _⟩
  · rintro e w' (⟨_, rfl, hm⟩ | ⟨h, _⟩ | ⟨h, _⟩)
    · exact ⟨rfl, hm⟩
    · cases h
    · cases h
theorem td_at {w : World} {a : Option Addr} {l : List TdR} (h : SlAt tdr 54 w a l) {i : Nat} {x : TdR} (hx : l[i]? = some x) : ∃ g o C U fr, a = some ⟨g, o, none⟩ ∧ w.heap[g]? = some (.cells C U fr) ∧ C.extract (o + i * 54) (o + i * 54 + 54) = tdr x ∧ o + i * 54 + 54 ≤ C.size := h.block hx
theorem errC_get {l : List Nat} {i v : Nat} (h : l[i]? = some v) : (errC l)[i]? = some (.int .i64 (v : Int)) := by
  simp [errC, h]
set_option maxRecDepth 20000 in
set_option maxHeartbeats 3200000 in
theorem recordE_c {b s q n t : Nat} {ea : Option Addr} {en ec : Nat} {oa : Option Addr} {on oc : Nat} {f : UInt64} (a : Option Addr) (l : List TdR) (c : Nat) (w : World) (kb : w.heap[b]? = some (.cells (blkC s q n t true ea en ec oa on oc f) 125 (0, 0))) (hl : SlAt tdr 54 w a l) (hn : l.length ≤ 100000) :
    Calls Tryz.prog 16 #[ptrV b, .slice a l.length c] w fun e w' => ∃ g, e = .returned (.slice (some ⟨g, 0, none⟩) l.length l.length) ∧ w.heap.size ≤ g ∧ SlAt ern 1 w' (some ⟨g, 0, none⟩) (List.replicate l.length 23) ∧ Mod (fun _ => False) w w' := by
  have hmk := mkErr l.length hn
  have HL := Lib.hid hl
  have KB := Lib.hid kb
  have hbl := lt_size kb
  clear hl kb
  generalize hll : l.length = ll at *
  have HLL := Lib.hid hll
  clear hll
  go_enter Tryz.func16, Tryz.ntmps16
  go_upto_region 1 with fail
  refine wp_pass0 (C := fun _ _ _ => False) (κ := fun i => [0, 0, 3, 0].getD i 0) [0, 1, 2, 3] (by kernel_rfl) (by kernel_rfl) (fun _ _ d _ _ h => by cases d <;> first | exact h | exact absurd h (hP _ _ _)) ?_
  (refine TD.val0 (v := ?v1) (by simp only [zA, zB, zC]; rfl) rfl ?hw1 (fun w1 => ?hy1) ?hn1; (case hw1 => rfl); (case hy1 => (go_simp; (try with_reducible rfl))); (try simp only [Act.put, zF, zG, zH]))
  (refine TD.val0 (v := ?v2) (by simp only [zA, zB, zC]; rfl) rfl ?hw2 (fun w1 => ?hy2) ?hn2; (case hw2 => rfl); (case hy2 => (go_simp; (try with_reducible rfl))); (try simp only [Act.put, zF, zG, zH]))
  (refine TD.mks (by simp only [zA, zB, zC]; rfl) rfl ?hw3 rfl rfl ?hx3 ?hz3 hmk (fun p13 hp13 => ?hn3); (case hw3 => rfl); (case hx3 => (simp only [Act.eval, zD, zA, zB, zC, zE]; (try rfl))); (case hz3 => (simp only [Act.eval, zD, zA, zB, zC, zE]; (try rfl))); (try simp only [Act.put, zF, zG, zH]))
  (refine TD.val0 (v := ?v4) (by simp only [zA, zB, zC]; rfl) rfl ?hw4 (fun w1 => ?hy4) ?hn4; (case hw4 => rfl); (case hy4 => (go_simp; (try with_reducible rfl))); (try simp only [Act.put, zF, zG, zH]))
  refine TD.nil (fun w1 hr => ?_)
  have kp13 := hr.box p13 _ (by first | exact Bx.set_same _ _ _ | (simp only [Bx.set_same]; rfl)); dsimp only [Value.cells] at kp13; obtain ⟨gp13, kp13⟩ := kp13
  clear hmk
  have m1 := hr.mod
  clear hr
  have hne : b ≠ p13 := by omega
  go_wp2_with fail
  go_at_call 45
  refine (bthere_c _ (m1.at0 KB.out)).mono ?_
  rintro e w2 ⟨rfl, rfl⟩
  go_wp2_with fail
  go_loopw [7, 8, 29] (fun s7 s8 s29 ws => ∃ i : Nat, i ≤ ll ∧ s7 = .slice none 0 0 ∧ s8 = .int .u64 0 ∧ s29 = .int .i64 (i : Int) ∧ ws.heap[p13]? = some (.cells (errC (List.replicate i 23 ++ List.replicate (ll - i) 0)) 26 (0, 0)) ∧ Mod (fun i => i = p13) w1 ws) (fun _ _ s29 _ => ll - (intOf s29).toNat)
  case atStart => exact ⟨0, by omega, rfl, rfl, rfl, by simpa using kp13, Mod.refl _ _⟩
  case round =>
    obtain ⟨i, hi, rfl, rfl, rfl, kq, hm⟩ := hrel
    clear kp13
    have mm := m1.thenB hm (.inl gp13)
    by_cases hlt : i < ll
    · obtain ⟨x, hx⟩ : ∃ x, l[i]? = some x := ⟨_, List.getElem?_eq_getElem (by rw [HLL.out]; exact hlt)⟩
      obtain ⟨g, o, C, U, fr, rfl, kl, he, hle⟩ := td_at (HL.out.mod0 mm) hx
      have HX := Lib.hid hx
      clear hx
      have hs : (errC (List.replicate i 23 ++ List.replicate (ll - i) 0)).size = ll := by rw [errC_size]; simp; omega
      have hset : (errC (List.replicate i 23 ++ List.replicate (ll - i) 0)).setIfInBounds i (.int .i64 23) = errC (List.replicate (i + 1) 23 ++ List.replicate (ll - (i + 1)) 0) := by
        refine (errC_set _ i 23).trans ?_
        congr 1
        obtain ⟨d, rfl⟩ : ∃ d, ll = i + 1 + d := ⟨ll - (i + 1), by omega⟩
        rw [show i + 1 + d - i = d + 1 by omega, show i + 1 + d - (i + 1) = d by omega, List.set_append_right _ _ (by simp), List.length_replicate, Nat.sub_self, List.replicate_succ, zG, List.replicate_succ' (n := i), List.append_assoc]
        rfl
      have hget : (errC (List.replicate (i + 1) 23 ++ List.replicate (ll - (i + 1)) 0))[i]? = some (.int .i64 23) := errC_get (by rw [List.getElem?_append_left (by simp), List.getElem?_replicate, if_pos (by omega)])
      have hs2 : (errC (List.replicate (i + 1) 23 ++ List.replicate (ll - (i + 1)) 0)).size = ll := by rw [errC_size]; simp; omega
      have HE2 : ∃ E2, E2 = errC (List.replicate (i + 1) 23 ++ List.replicate (ll - (i + 1)) 0) := ⟨_, rfl⟩
      obtain ⟨E2, hE2⟩ := HE2
      obtain ⟨E, hE⟩ : ∃ E, E = errC (List.replicate i 23 ++ List.replicate (ll - i) 0) := ⟨_, rfl⟩
      rw [← hE2] at hset hget hs2
      rw [← hE] at hs hset kq
      have HEE := Lib.hid (And.intro hE hE2)
      clear hE hE2
      have HS := Lib.hid hset
      clear hset
      go_upto_region 13 with fail
      have Lkl := lt_size kl
      have Lkq := lt_size kq
      refine wp_pass0 (C := fun _ _ _ => False) (κ := fun i => [0, 0, 1, 3, 0, 4].getD i 0) [0, 1, 2, 3, 4, 5] (by kernel_rfl) (by kernel_rfl) (fun _ _ d _ _ h => by cases d <;> first | exact h | exact absurd h (hP _ _ _)) ?_
      (refine TD.val0 (v := ?v5) (by simp only [zA, zB, zC]; rfl) rfl ?hw5 (fun w1 => ?hy5) ?hn5; (case hw5 => rfl); (case hy5 => (go_simp; (try with_reducible rfl))); (try simp only [Act.put, zF, zG, zH]))
      (refine TD.val0 (v := ?v6) (by simp only [zA, zB, zC]; rfl) rfl ?hw6 (fun w1 => ?hy6) ?hn6; (case hw6 => rfl); (case hy6 => (go_simp; (try with_reducible rfl))); (try simp only [Act.put, zF, zG, zH]))
      (refine TD.load (v := ?v7) (p := ?p7) (Mod.refl _ _) (by simp only [zA, zB, zC]; rfl) rfl ?hw7 rfl ?hx7 (fun wq hSq => ?hy7) ?hn7; (case hw7 => rfl); (case hx7 => (simp only [Act.eval, zD, zA, zB, zC, zE]; (try rfl))); (case hy7 => (have klq := hSq.at kl (fun h => h); have kqq := hSq.at kq (fun h => h); go_simp; (try with_reducible rfl))); (try simp only [Act.put, zF, zG, zH]))
      (refine TD.allocB (by simp only [zA, zB, zC]; rfl) rfl ?hw8 rfl rfl alTd (fun p10 hp10 => ?hn8); (case hw8 => rfl); (try simp only [Act.put, zF, zG, zH]))
      (refine TD.val0 (v := ?v9) (by simp only [zA, zB, zC]; rfl) rfl ?hw9 (fun w1 => ?hy9) ?hn9; (case hw9 => rfl); (case hy9 => (go_simp; (try with_reducible rfl))); (try simp only [Act.put, zF, zG, zH]))
      (refine TD.storeB (d := ?d10) (T := ?T10) (y := ?y10) (p := ?p10) (b := ?b10) (v := ?v10) (by simp only [zA, zB, zC]; rfl) rfl ?hw10 ?hd10 ?hop10 ?hev10 ?hx10 ?hb10 ?htag10 (fun w1 hb1 => ?hy10) ?hn10; (case hw10 => rfl); (case hd10 => rfl); (case hop10 => rfl); (case hev10 => (simp only [Act.eval, zD, zA, zB, zC, zE]; (try rfl))); (case hx10 => (simp only [Act.eval, zD, zA, zB, zC, zE]; (try rfl))); (case hb10 => first | exact Bx.set_same _ _ _ | (simp only [Bx.set_same]; rfl)); (case hy10 => (go_simp; (try first | with_reducible rfl | (rw [setCell_blk hb1]; rfl)))); (try simp only [Act.put, zF, zG, zH]))
      refine TD.nil (fun w3 hr => ?_)
      replace kl := hr.mod.at kl (fun h => h)
      replace kq := hr.mod.at kq (fun h => h)
      have kp10 := hr.box p10 _ (by first | exact Bx.set_same _ _ _ | (simp only [Bx.set_same]; rfl)); dsimp only [Value.cells] at kp10; obtain ⟨gp10, kp10⟩ := kp10
      have hm3 := hm.then0 hr.mod
      clear hr
      go_wp2_with fail
      go_at_call 46
      refine (verdictE_c x _ ((m1.thenB hm3 (.inl gp13)).at0 KB.out)).mono ?_
      rintro e w4 ⟨rfl, m4⟩
      have hm4 := hm3.then0 m4
      have kq := m4.at0 kq
      clear kp10 kl he m4
      go_upto_region 15 with fail
      rw [setCell_blk kq, HS.out]
      obtain ⟨w5, kq5, m5, e5⟩ : ∃ w5, w5.heap[p13]? = some (.cells E2 26 (0, 0)) ∧ Mod (fun i => i = p13) w4 w5 ∧ w5 = setBlock w4 p13 (.cells E2 26 (0, 0)) := ⟨_, heap_setBlock _ _ (lt_size kq), mod_set _ _ _, rfl⟩
      rw [← e5]
      have hm5 := hm4.trans m5
      clear e5 m5 kq hs hs2
      have Lkq5 := lt_size kq5
      refine wp_pass0 (C := fun _ _ _ => False) (κ := fun i => [0, 0, 0, 1, 0].getD i 0) [0, 1, 2, 3, 4] (by kernel_rfl) (by kernel_rfl) (fun _ _ d _ _ h => by cases d <;> first | exact h | exact absurd h (hP _ _ _)) ?_
      (refine TD.val0 (v := ?v11) (by simp only [zA, zB, zC]; rfl) rfl ?hw11 (fun w1 => ?hy11) ?hn11; (case hw11 => rfl); (case hy11 => (go_simp; (try with_reducible rfl))); (try simp only [Act.put, zF, zG, zH]))
      (refine TD.val0 (v := ?v12) (by simp only [zA, zB, zC]; rfl) rfl ?hw12 (fun w1 => ?hy12) ?hn12; (case hw12 => rfl); (case hy12 => (go_simp; (try with_reducible rfl))); (try simp only [Act.put, zF, zG, zH]))
      (refine TD.val0 (v := ?v13) (by simp only [zA, zB, zC]; rfl) rfl ?hw13 (fun w1 => ?hy13) ?hn13; (case hw13 => rfl); (case hy13 => (go_simp; (try with_reducible rfl))); (try simp only [Act.put, zF, zG, zH]))
      (refine TD.load (v := ?v14) (p := ?p14) (Mod.refl _ _) (by simp only [zA, zB, zC]; rfl) rfl ?hw14 rfl ?hx14 (fun wq hSq => ?hy14) ?hn14; (case hw14 => rfl); (case hx14 => (simp only [Act.eval, zD, zA, zB, zC, zE]; (try rfl))); (case hy14 => (have kq5q := hSq.at kq5 (fun h => h); go_simp; (try with_reducible rfl))); (try simp only [Act.put, zF, zG, zH]))
      (refine TD.val0 (v := ?v15) (by simp only [zA, zB, zC]; rfl) rfl ?hw15 (fun w1 => ?hy15) ?hn15; (case hw15 => rfl); (case hy15 => (go_simp; (try with_reducible rfl))); (try simp only [Act.put, zF, zG, zH]))
      refine TD.nil (fun w6 hr => ?_)
      replace kq5 := hr.mod.at kq5 (fun h => h)
      have hm5 := hm5.then0 hr.mod
      clear hr hget
      go_wp2_with fail
      go_roundw
      case rel => exact ⟨i + 1, by omega, rfl, rfl, by go_num, by rw [← HEE.out.2]; exact kq5, hm5⟩
      case measure => simp [intOf]; omega
    · obtain rfl : i = ll := by omega
      go_wp2_with fail
      go_ret
      exact ⟨_, rfl, gp13, by have := errC_at kq; simpa using this, mm⟩
end Go.Proofs.YtofpnmoeimjnnaaGreat
