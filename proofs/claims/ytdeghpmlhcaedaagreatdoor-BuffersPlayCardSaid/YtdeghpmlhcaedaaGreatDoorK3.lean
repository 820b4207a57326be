/- The lemmas of the proof, part 3: how the program and its data lie in memory, and what its functions do. -/
import Derived.Test.YtdeghpmlhcaedaaGreatDoorK2
set_option linter.unusedSimpArgs false
set_option linter.unusedVariables false
set_option linter.unusedSectionVars false
namespace Go.Proofs.YtdeghpmlhcaedaaGreatDoor
open Go.RowKit Go.Sort
open Go.ChangeMaps (setBlock)
attribute [local go_sem ↓] wlRk ldRk stRk eqRk eqRk2 wlSides ldSides stSides
attribute [local go_sem] rkc_size ndc_size cell_blk frozen_blk one_int one_bool one_ptr one_slice one_map Value.cells enter_fn eqMap neMap ix0 ix1 rkc_all1 ndc_rank ndc_id
def ic (i : Int64) : Array Value := #[.int .i64 i.toInt]
theorem intT : ElT Tryz.prog 79 3 ic 1 8 where
 u := Tryz.underlying79
 info := by
  obtain ⟨i0, hi, hz0, hz1, hz2⟩ := info_parts (show (Tryz.prog.info? 3).map (fun i => (i.zero, i.size, i.bytes)) = some (some (.int .i64 0), 1, 8) by kernel_rfl)
  exact ⟨i0, _, hi, hz0, hz1, hz2, rfl⟩
 pos := by omega
 size x := rfl
 one x u hu := by
  simp [ic] at hu
  subst hu
  rfl
theorem cellsOf_ic (l : List Int64) : cellsOf ic l = l.map fun b => .int .i64 b.toInt := by
 unfold cellsOf ic
 induction l with
 | nil => rfl
 | cons b l ih => simpa using ih
theorem own_ints {w : World} {base q n : Nat} {cur : Array Value} {l : List Int64} (hb : base ≤ q) (hg : w.heap[q]? = some (.cells cur 3 (0, 0))) (hs : cur.size = n) (hl : l.length = n) (hn : n ≤ maxLen) (hc : ∀ (i : Nat) x, l[i]? = some x → cur[i]? = some (.int .i64 x.toInt)) :
  SlOwn ic 1 3 w base (.slice (some ⟨q, 0, none⟩) n n) l := by
 subst hl
 refine ⟨?_, .inr ⟨q, l.length, cur, rfl, hb, hg, Nat.le_refl _, hn, by omega, ?_⟩⟩
 ·rw [cellsOf_ic]; simp
 ·rw [cellsOf_ic, Nat.mul_one]
  apply List.ext_getElem?
  intro i
  rw [List.getElem?_take, List.getElem?_map]
  by_cases hi : i < l.length
  ·rw [if_pos hi, List.getElem?_eq_getElem hi]
   have := hc i _ (List.getElem?_eq_getElem hi)
   simpa using this
  ·rw [if_neg hi, List.getElem?_eq_none (by omega)]
   rfl
def Srt (l : List Nd) : Prop := l.Pairwise (fun a b => nlt a b = true)
theorem srt_of_falling {nd : Nat → Nd} {ys : List Nat} (h : Falling nd ys) (hn : (ys.map (fun b => (nd b).id)).Nodup) : Srt (ys.map nd) := by
 unfold Srt
 rw [List.pairwise_map, List.pairwise_iff_getElem]
 intro i j hi hj hij
 have h1 := h i j _ _ hij (List.getElem?_eq_getElem hi) (List.getElem?_eq_getElem hj)
 cases h2 : nlt (nd ys[i]) (nd ys[j])
 ·have h3 := nlt_total h2 h1
  rw [List.nodup_iff_pairwise_ne, List.pairwise_map, List.pairwise_iff_getElem] at hn
  exact absurd (by rw [h3]) (hn i j hi hj hij)
 ·rfl
theorem Ptrs.up {n₀ n₁ : Nat} {W : World} {sv : Value} {zs : List Nat} (hn : n₀ ≤ n₁) : Ptrs n₀ W sv zs → Ptrs n₁ W sv zs
 | .inl e => .inl e
 | .inr ⟨b, off, cap, e, hb, hc⟩ => .inr ⟨b, off, cap, e, Nat.lt_of_lt_of_le hb hn, hc⟩
set_option maxRecDepth 20000 in
set_option maxHeartbeats 3200000 in
theorem list_c {h : Nat} {C : List Nd} {T : Nat → Prop} {w : World} (hA : HAt h C T w) (hC : C.length ≤ 700000) : Calls Tryz.prog 47 #[ptrV h] w fun e w' =>
  ∃ (v : Value) (l : List Nd), e = .returned v ∧ l.Perm C ∧ Srt l ∧ SlOwn ic 1 3 w' w.heap.size v (l.map Nd.id) ∧ Mod (fun _ => False) w w' := by
 have hnd := hA.ids
 obtain ⟨s0, s1, mb, v0, v1, L0, L1, nd, m, H, rfl, hO⟩ := hA
 have kh := H.kh
 have ks := H.d0.side
 simp only [sdc, kn, if_true, if_false, Bool.false_eq_true] at ks
 obtain ⟨a0, c0, rfl, _⟩ := H.d0.own.at ptrT
 have HH := Lib.hid H
 have HN := Lib.hid hnd
 have HL : Hid (L0.length = m.length ∧ m.length ≤ 700000) := Lib.hid ⟨by rw [H.p0.length_eq, List.length_map], by simpa using hC⟩
 clear H hO hnd hC
 go_enter Tryz.func47, Tryz.ntmps47
 go_wp2_with fail
 go_at_call 68
 refine (there_c kh).mono ?_
 rintro e w1 ⟨rfl, rfl⟩
 go_wp2_with fail
 go_at_call 73
 refine (values_c _ _ _ _).mono ?_
 rintro e w2 ⟨rfl, rfl⟩
 have hB0 : Below w1.heap.size w1 (w1.alloc (.cells #[.slice a0 L0.length c0] 101)) := (Below.refl _ w1).alloc (Nat.le_refl _) _
 have hM0 : Mod (fun _ => False) w1 (w1.alloc (.cells #[.slice a0 L0.length c0] 101)) := (Mod.refl _ _).alloc _
 have hsf := sortedFunc_c w1.heap.size (.slice a0 L0.length c0) L0 nd (by have := HL.out; omega) (w1.alloc (.cells #[.slice a0 L0.length c0] 101)) (by simp) (Boxed.new w1 _ _).cell (((Ptrs.own HH.out.d0.own).below hB0).up hB0.size) (fun b hb => ⟨_, _, hM0.at0 (HH.out.d0.cell hb)⟩)
 go_wp2_with fail
 go_at_call 72
 refine hsf.mono ?_
 rintro e w3 ⟨v, ys, rfl, hperm, hfall, hown, hm⟩
 have m3 := hM0.then0 hm
 have hs3 := hm.size
 obtain ⟨a3, c3, rfl, _⟩ := hown.at ptrT
 have HY := Lib.hid (And.intro hperm (And.intro hfall hown))
 have hyl : ys.length = m.length := by rw [hperm.length_eq]; exact HL.out.1
 have hyl2 : ys.length ≤ 700000 := by rw [hyl]; exact HL.out.2
 clear hsf hB0 hM0 hperm hfall hown hm kh ks hyl hs3
 obtain ⟨i0, z, hi, hz, hz1, hz2, hz3⟩ := intT.info
 have hmk : (Instr.makeSlice 79 (.int .i64 (ys.length : Int)) (.int .i64 (ys.length : Int))).run Tryz.prog w3 = .ok (.slice (some ⟨w3.heap.size, 0, none⟩) ys.length ys.length) (w3.alloc (.cells (madeCells z.cells (ys.length * i0.size)) 3)) := by
  have := run_make (P := Tryz.prog) w3 79 3 i0 z Tryz.underlying79 hi hz .i64 .i64 (ys.length : Int) (ys.length : Int) (by omega) (by omega) (by rw [hz2]; omega) (by omega)
  simpa using this
 have hcs : (madeCells z.cells (ys.length * i0.size)).size = ys.length := by rw [size_madeCells, hz1, Nat.mul_one]
 generalize madeCells z.cells (ys.length * i0.size) = cur0 at *
 clear hi hz hz1 hz2 hz3
 go_upto_region 5 with fail
 have kq := heap_alloc_new w3 (.cells cur0 3)
 have m4 := m3.alloc (.cells cur0 3)
 have mq : Mod (fun _ => False) w3 (w3.alloc (.cells cur0 3)) := (Mod.refl _ _).alloc _
 have hq1 : w1.heap.size ≤ w3.heap.size := m3.size
 have HQ := Lib.hid (And.intro hq1 (And.intro m4 (And.intro mq (lt_size kq))))
 clear hmk m4 mq m3
 generalize hwq : w3.alloc (.cells cur0 3) = w4 at *
 generalize hqe : w3.heap.size = q at *
 go_wp2_with fail
 go_loopw [25, 5, 6] (fun s25 _ _ ws => ∃ (i : Nat) (cur : Array Value), i ≤ ys.length ∧ s25 = .int .i64 (i : Int) ∧ ws.heap[q]? = some (.cells cur 3 (0, 0)) ∧ cur.size = ys.length ∧ Hid (∀ (j : Nat) b, j < i → ys[j]? = some b → cur[j]? = some (.int .i64 (nd b).id.toInt)) ∧ Mod (fun x => x = q) w4 ws) (fun s25 _ _ _ => ys.length - (intOf s25).toNat)
 case atStart => exact ⟨0, cur0, by omega, rfl, kq, hcs, Lib.hid (fun j b hj => by omega), Mod.refl _ _⟩
 case round =>
  obtain ⟨i, cur, hi, rfl, kq, hcs, HG, hm⟩ := hrel
  by_cases hlt : i < ys.length
  ·obtain ⟨b, hb⟩ : ∃ b, ys[i]? = some b := ⟨_, List.getElem?_eq_getElem hlt⟩
   obtain ⟨g, cap, curp, hv, _, kg, _, hcsp, hcur, _⟩ := own_row HY.out.2.2 (fun e => by rw [e] at hlt; cases hlt)
   simp only [Value.slice.injEq, true_and] at hv
   obtain ⟨rfl, rfl⟩ := hv
   have ci := hcur i b hb
   have hbm : b ∈ L0 := HY.out.1.mem_iff.1 (List.mem_of_getElem? hb)
   have hgq : g ≠ q := by have := lt_size kg; omega
   have k0 := HH.out.d0.cell hbm
   have hbq : b ≠ q := by
    have := lt_size k0
    have := HQ.out.1
    omega
   have kn0 := hm.at (HQ.out.2.1.at0 k0) hbq
   replace kg := hm.at (HQ.out.2.2.1.at0 kg) hgq
   have HB := Lib.hid hb
   clear hcur hb hbm k0 hcsp
   go_upto_region 8 with fail
   have Lkg := lt_size kg
   have Lkn0 := lt_size kn0
   have Lkq := lt_size kq
   refine wp_pass0 (C := fun _ _ _ => False) (κ := fun i => [0, 0, 0, 0, 0, 1, 0, 5].getD i 0) [0, 1, 2, 3, 4, 5, 6, 7] (by kernel_rfl) (by kernel_rfl) (fun _ _ d _ _ h => by cases d <;> first | exact h | exact absurd h (hP _ _ _)) ?_
   (refine TD.val0 (v := ?v1) (by simp only [zK]; rfl) rfl (by rfl) (fun w1 => ?y1) ?n1; (case y1 => go_simp; try with_reducible rfl); try simp only [Act.put, zL])
   (refine TD.val0 (v := ?v2) (by simp only [zK]; rfl) rfl (by rfl) (fun w1 => ?y2) ?n2; (case y2 => go_simp; try with_reducible rfl); try simp only [Act.put, zL])
   (refine TD.val0 (v := ?v3) (by simp only [zK]; rfl) rfl (by rfl) (fun w1 => ?y3) ?n3; (case y3 => go_simp; try with_reducible rfl); try simp only [Act.put, zL])
   (refine TD.val0 (v := ?v4) (by simp only [zK]; rfl) rfl (by rfl) (fun w1 => ?y4) ?n4; (case y4 => go_simp; try with_reducible rfl); try simp only [Act.put, zL])
   (refine TD.val0 (v := ?v5) (by simp only [zK]; rfl) rfl (by rfl) (fun w1 => ?y5) ?n5; (case y5 => go_simp; try with_reducible rfl); try simp only [Act.put, zL])
   (refine TD.load (v := ?v6) (p := ?p6) (Mod.refl _ _) (by simp only [zK]; rfl) rfl (by rfl) rfl ?hx6 (fun wq hSq => ?y6) ?n6; (case hx6 => simp only [Act.eval, zM]; try rfl); (case y6 => (have kgq := hSq.at kg (fun h => h); have kn0q := hSq.at kn0 (fun h => h); have kqq := hSq.at kq (fun h => h); go_simp; (try with_reducible rfl))); try simp only [Act.put, zL])
   (refine TD.val0 (v := ?v7) (by simp only [zK]; rfl) rfl (by rfl) (fun w1 => ?y7) ?n7; (case y7 => go_simp; try with_reducible rfl); try simp only [Act.put, zL])
   refine TD.eff (by simp only [zK]; rfl) rfl (fun w5 hr => ?_)
   have kg := hr.mod.at kg (fun h => h)
   have kn0 := hr.mod.at kn0 (fun h => h)
   have kq := hr.mod.at kq (fun h => h)
   have m5 := hm.then0 hr.mod
   clear hr
   (refine eff_store (X := ?X9) (Y := ?Y9) (w' := ?w9) (by simp only [zK]; rfl) (by rfl) rfl ?hx9 ?hz9 ?y9 ?n9; (case hx9 => simp only [Act.eval, zM]; try rfl); (case hz9 => simp only [Act.eval, zM]; try rfl); (case y9 => go_simp; try with_reducible rfl))
   (first | refine TE.nil_set kq (fun wn kq mS => ?_) | refine TE.nil_setCell kq (fun wn kq mS => ?_))
   have m6 := m5.then mS (fun _ _ e => e)
   clear mS m5 kg kn0
   go_wp2_with fail
   go_roundw
   case rel => exact ⟨i + 1, _, by omega, by go_num, kq, by simpa using hcs, Lib.hid (fun j b' hj hb' => by
    by_cases e : j = i
    ·subst e
     rw [HB.out] at hb'
     cases hb'
     rw [Array.getElem?_setIfInBounds_self_of_lt (by omega)]
    ·rw [Array.getElem?_setIfInBounds_ne (fun e' => e e'.symm)]
     exact HG.out j b' (by omega) hb'), m6⟩
   case measure => simp [intOf]; omega
  ·have hie : i = ys.length := by omega
   go_wp2_with fail
   go_ret
   have hpm : (ys.map nd).Perm (m.map fun p => nd p.2) := by
    have h1 := (HY.out.1.trans HH.out.p0).map nd
    rwa [List.map_map] at h1
   refine ⟨_, ys.map nd, rfl, hpm, srt_of_falling HY.out.2.1 ?_, own_ints HQ.out.1 kq hcs (by simp) (by simp [maxLen]; omega) (fun j x hx => ?_), (HQ.out.2.1).then hm (fun x hx e => by subst e; have := HQ.out.1; omega)⟩
   ·have h2 := hpm.map Nd.id
    rw [List.map_map] at h2
    exact h2.nodup_iff.2 HN.out
   ·rw [List.getElem?_map, List.getElem?_map] at hx
    cases hy : ys[j]? with
    | none => rw [hy] at hx; cases hx
    | some b =>
     rw [hy] at hx
     cases hx
     exact HG.out j b (by have := (List.getElem?_eq_some_iff.1 hy).1; omega) hy
end Go.Proofs.YtdeghpmlhcaedaaGreatDoor
namespace Go.Proofs.YtdeghpmlhcaedaaGreatDoor
section
variable {P : Program} {ops : Array Oper} {Q : Exit → Act → World → Prop} {T0 : Nat → Prop} {w0 : World} {κ : Nat → Nat} {υ : Nat → List Tmp}
theorem TG.soundE (hsel : ∀ (j : Nat) (p : Oper) cs b, ops[j]? = some p → p.op ≠ .select cs b)
  (hback : ∀ i o, ops[i]? = some o → ∀ e ∈ o.after, Region.binds .any e = true → e.on < i) {rest : List Nat} (hrest : pairsOk ops κ rest = true) :
  ∀ (fuel : Nat) (l : List Nat) (listed : Array Bool) (a : Act) (B : Bx) (K : Land) (w : World), l.length = fuel → (l ++ rest).Nodup → (∀ i ∈ l ++ rest, i < ops.size) → gPairsOk ops κ υ l = true →
   (∀ x ∈ l, ∀ y ∈ rest, x ≠ y ∧ (behindB ops x).testBit y = true) → Listing ops listed (l ++ rest) → Closed K →
   RG T0 w0 B K w → TG P ops (fun _ a w => TE P ops Q κ rest a w) T0 w0 κ υ l a B K → wpAny P .any ops Q (rest.length + fuel) listed a w := by
 intro fuel
 induction fuel with
 | zero =>
  intro l listed a B K w hl hn hlt hp hb hL hK hR h
  obtain rfl : l = [] := List.length_eq_zero_iff.1 hl
  have hte : TE P ops Q κ rest a w := by
   cases h with | nil h => exact h w hR
  exact TE.sound hsel hback _ rest listed a w rfl (by simpa using hn) (by simpa using hlt) hrest (by simpa using hL) hte
 | succ fuel ih =>
  intro l listed a B K w hl hn hlt hp hb hL hK hR h
  refine ⟨fun hnil => ?_, fun i hi => ?_⟩
  ·exfalso
   match l, hl with
   | i :: l', _ => exact exists_ready hback hL hlt i i (by simp) (Nat.le_refl _) hnil
  ·obtain ⟨hun, o, ho, hall⟩ := mem_ready.1 hi
   have hil : i ∈ l := by
    rcases List.mem_append.1 ((hL.mem i).2 hun) with hin | hin
    ·exact hin
    ·exfalso
     clear h
     match l, hl with
     | x :: l', _ =>
      have hxy := hb x (by simp) i hin
      obtain ⟨_, hpth⟩ := (behindB_path hxy.2).resolve_left (fun e => hxy.1 e.symm)
      have hl1 := path_listed hL.closed _ x i o ho hall hpth
      have hl2 := getD_false_of_true ((hL.mem x).1 (by simp))
      rw [hl1] at hl2
      cases hl2
   obtain ⟨pre, post, rfl⟩ := List.append_of_mem hil
   obtain ⟨h1, h2⟩ := gPairsOk_split hp
   have hf := TG.front hsel ho pre a B K hK ⟨w, hR⟩ (fun x hx => by
    have := h1 x hx
    unfold gPairOk at this
    have hxo : ops[x]? = some (ops[x]'(hlt x (by simp [hx]))) := Array.getElem?_eq_getElem _
    rw [hxo, ho] at this
    simp only [Bool.or_eq_true, Bool.and_eq_true] at this
    rcases this with hpth | hok
    ·obtain ⟨_, hpth⟩ := (behindB_path hpth.2).resolve_left (fun e => by have := hpth.1; simp [e] at this)
     have hl1 := path_listed hL.closed _ x i o ho hall hpth
     have hl2 := getD_false_of_true ((hL.mem x).1 (by simp [hx]))
     rw [hl1] at hl2
     cases hl2
    ·exact ⟨_, hxo, hok.1, hok.2⟩) h
   have hl' : (pre ++ post).length = fuel := by simp at hl ⊢; omega
   have hsub : ((pre ++ post) ++ rest).Sublist ((pre ++ i :: post) ++ rest) := List.Sublist.append_right (List.Sublist.append_left (List.sublist_cons_self _ _) _) _
   have hn' : ((pre ++ post) ++ rest).Nodup := hn.sublist hsub
   have hlt' : ∀ j ∈ (pre ++ post) ++ rest, j < ops.size := fun j hj => hlt j (hsub.subset hj)
   have hb' : ∀ x ∈ pre ++ post, ∀ y ∈ rest, x ≠ y ∧ (behindB ops x).testBit y = true := fun x hx => hb x ((List.Sublist.append_left (List.sublist_cons_self i post) pre).subset hx)
   have hL' : Listing ops (listed.setIfInBounds i true) ((pre ++ post) ++ rest) := by
    have := Listing.next (pre := pre) (post := post ++ rest) (i := i) (by simpa using hL) (by simpa using hn) ho hall
    simpa using this
   rcases hf.kinds with ko | ko | ko | ko
   ·obtain ⟨v, hy, ht⟩ := hf.inv_val ko ho
    obtain ⟨T, hRT⟩ := hR
    exact YieldsIf.wpOp ho hy hRT.mod (ih _ _ _ _ _ _ hl' hn' hlt' h2 hb' hL' hK ⟨T, hRT⟩ ht)
   ·obtain ⟨hw, d, T, z, V, hd, hr, ht⟩ := hf.inv_alloc ko ho
    obtain ⟨U, hRT⟩ := hR
    have hR' : RG T0 w0 (B.set w.heap.size ⟨z, T, d⟩) K (w.alloc (.cells z T)) := ⟨U, hRT.alloc hK z T d⟩
    unfold wpOp
    simp only [ho, hw, if_true]
    refine .inl ?_
    unfold Oper.wp
    rw [hr w]
    exact ih _ _ _ _ _ _ hl' hn' hlt' h2 hb' hL' hK hR' (ht _ hRT.none ⟨_, hR'⟩)
   ·obtain ⟨hw, hd, d, T, y, p, b, hop, hev, hbb, htag, hr, ht⟩ := hf.inv_store ko ho
    obtain ⟨U, hRT⟩ := hR
    unfold wpOp
    simp only [ho, hw, if_true]
    refine .inl ?_
    unfold Oper.wp
    rw [hr w (hRT.box p b hbb).2.2]
    simp only [Oper.upon, hd]
    exact ih _ _ _ _ _ _ hl' hn' hlt' h2 hb' hL' hK ⟨U, hRT.store hK hbb _⟩ ht
   ·obtain ⟨hw, K', hE, ht⟩ := hf.inv_eff ko ho
    obtain ⟨U, hRT⟩ := hR
    exact (hE.step hRT).wp ho hw fun v w' hv => ih _ _ _ _ _ _ hl' hn' hlt' h2 hb' hL' (hE.cl v) hv (ht v ⟨w', hv⟩)
def eRegOk (ops : Array Oper) (κ : Nat → Nat) (υ : Nat → List Tmp) (l rest : List Nat) : Bool :=
 Region.noSelect ops && ((List.range ops.size).all fun i => match ops[i]? with | none => false | some o => o.after.all fun e => !Region.binds .any e || decide (e.on < i)) &&
 (decide (rest.length + l.length = ops.size) && ((l ++ rest).all (fun i => decide (i < ops.size)) && ((List.range ops.size).all fun i => (l ++ rest).contains i))) &&
 (decide (l ++ rest).Nodup && gPairsOk ops κ υ l && pairsOk ops κ rest && l.all (fun x => rest.all fun y => !(x == y) && (behindB ops x).testBit y))
theorem e_any {a : Act} {w1 : World} {K : Land} (l rest : List Nat) (hok : eRegOk ops κ υ l rest = true) (hK : Closed K) (hR : RG T0 w0 Bx.nil K w1)
  (h : TG P ops (fun _ a w => TE P ops Q κ rest a w) T0 w0 κ υ l a Bx.nil K) : wpAny P .any ops Q ops.size (Array.replicate ops.size false) a w1 := by
 simp only [eRegOk, Bool.and_eq_true, List.all_eq_true, decide_eq_true_eq] at hok
 obtain ⟨⟨⟨h1, h2⟩, h3, h4, h5⟩, ⟨⟨hnd, h6⟩, h7⟩, h8⟩ := hok
 have hback : ∀ i o, ops[i]? = some o → ∀ e ∈ o.after, Region.binds .any e = true → e.on < i := fun i o ho e he hb => by
  have := h2 i (List.mem_range.2 (Array.getElem?_eq_some_iff.1 ho).1)
  rw [ho] at this
  have := Array.all_eq_true_iff_forall_mem.1 this e he
  simpa [hb] using this
 rw [← h3]
 refine TG.soundE (Region.noSelect_spec h1) hback h7 _ l _ a _ _ _ rfl hnd h4 h6 (fun x hx y hy => ?_) ?_ hK hR h
 ·have := h8 x hx y hy
  exact ⟨by simpa using this.1, this.2⟩
 ·rw [h3]
  refine ⟨by simp, fun i => ?_, fun i o hi => ?_⟩
  ·constructor
   ·intro hi
    have := h4 i hi
    simp [this]
   ·intro hi
    have : i < ops.size := by
     rcases Nat.lt_or_ge i ops.size with h' | h'
     ·exact h'
     ·simp [Nat.not_lt.2 h'] at hi
    simpa using h5 i (List.mem_range.2 this)
  ·exfalso
   have : (Array.replicate ops.size false).getD i false = false := by
    by_cases h' : i < ops.size
    ·simp [h']
    ·simp [h']
   rw [this] at hi
   cases hi
theorem wp_epass {id : Nat} {a : Act} {w : World} {K : Land} (l rest : List Nat) (hm : P.follows .mixedOrders = true) (hok : eRegOk ops κ υ l rest = true) (hK : Closed K) (hk : K T0 w) (hlt : ∀ i, T0 i → i < w.heap.size)
  (h : TG P ops (fun _ a w => TE P ops Q κ rest a w) T0 w κ υ l a Bx.nil K) : (Code.region id ops true).wp P Q a w :=
 wp_region_any hm (e_any l rest hok hK ⟨T0, hK T0 w w.drew hk (Mod.refl _ w).drew, hlt, fun _ _ h => h, (Mod.refl _ w).drew, fun _ _ hh => by cases hh⟩ h)
theorem wp_epass0 {id : Nat} {a : Act} {w : World} {K : Land} (l rest : List Nat) (hlin : Region.linearise .any ops 0 = List.range ops.size) (hok : eRegOk ops κ υ l rest = true) (hK : Closed K) (hk : K T0 w) (hlt : ∀ i, T0 i → i < w.heap.size)
  (h : TG P ops (fun _ a w => TE P ops Q κ rest a w) T0 w κ υ l a Bx.nil K) : (Code.region id ops false).wp P Q a w := by
 refine wp_region ?_
 rw [← hlin]
 exact wpAny_sound ops.size 0 _ a w (e_any l rest hok hK ⟨T0, hk, hlt, fun _ _ h => h, Mod.refl _ _, fun _ _ hh => by cases hh⟩ h)
theorem TG.appK {i : Nat} {r : List Nat} {a : Act} {B : Bx} {K : Land} {o : Oper} {x y : Operand} {X Y : Value} {ts : Array TypeId} (K' : Value → Land) (hcl : ∀ v, Good (K' v)) (ho : ops[i]? = some o) (hk : κ i = 6) (hw : Region.wanted o (yielded ops a.tmps) = true)
  (hop : o.op = .call { callee := .builtin .append, args := #[x, y], argTypes := ts }) (hx : a.eval x = X) (hy : a.eval y = Y)
  (hr : ∀ T w, K T w → (∀ i, T i → i < w.heap.size) → Mod T0 w0 w → UB T (υ i) B w → ∃ v w', (Builtin.append_ ts o.type #[X, Y]).run P w = .ok v w' ∧ Mod T w w' ∧ K' v (Grow T w w') w')
  (h : ∀ v, Inh T0 w0 B (K' v) → TG P ops Q T0 w0 κ υ r (a.put o.dst v) B (K' v)) : TG P ops Q T0 w0 κ υ (i :: r) a B K := by
 refine TG.eff' K' ho hk hw (fun v => (hcl v).cl) (fun T w k1 k2 k3 k4 => .inl ?_) h
 obtain ⟨v, w', h1, h2⟩ := hr T w k1 k2 k3 k4
 refine ⟨v, w', ?_, h2⟩
 subst hx
 subst hy
 simp [execOp, hop, resolve, invoke, builtin, h1]
end
end Go.Proofs.YtdeghpmlhcaedaaGreatDoor
namespace Go.Proofs.YtdeghpmlhcaedaaGreatDoor
open Go.RowKit Go.Sort
open Go.ChangeMaps (setBlock)
attribute [local go_sem ↓] wlRk ldRk stRk eqRk eqRk2
attribute [local go_sem] rkc_size ndc_size cell_blk frozen_blk one_int one_bool one_ptr one_slice one_map Value.cells rkc_all1
set_option maxRecDepth 20000 in
theorem bsInt (x : Int64) (w : World) : (Instr.buildSlice 79 1 #[(0, .int .i64 x.toInt)]).run Tryz.prog w = .ok (.slice (some ⟨w.heap.size, 0, none⟩) 1 1) (w.alloc (.cells (ic x) 3)) := by
 obtain ⟨i0, z, hi, hz, hz1, hz2, hz3⟩ := intT.info
 refine run_buildSlice w _ _ 1 _ _ i0 _ Tryz.underlying79 hi hz (by rw [hz1]; omega) (by rw [hz1]; omega) ?_
 rw [hz1]
 show Instr.fill _ _ [(0, _)] = _
 rw [fill_cons (off := 0) (n := 1) rfl rfl (by simp)]
 show some (wr _ 0 (ic x).toList) = _
 rw [wr_whole (ic x) _ (by simp [ic, hz3])]
set_option maxRecDepth 20000 in
set_option maxHeartbeats 3200000 in
theorem sameA_c {a1 a2 : Option Addr} {c1 c2 : Nat} {l m : List Int64} {w : World} (hv : SlAt ic 1 w a1 l) (hu : SlAt ic 1 w a2 m) (hl : l.length ≤ 900000) (hm : m.length ≤ 900000) : Calls Tryz.prog 17 #[.slice a1 l.length c1, .slice a2 m.length c2] w fun e w' => e = .returned (.bool (decide (l = m))) ∧ Mod (fun _ => False) w w' := by
 have HV := Lib.hid (And.intro hv hu)
 clear hv hu
 go_enter Tryz.func17, Tryz.ntmps17
 go_wp2_with fail
 go_loopw [5] (fun s5 ws => ∃ i : Nat, i ≤ l.length ∧ i ≤ m.length ∧ s5 = .int .i64 (i : Int) ∧ Hid (l.take i = m.take i) ∧ Mod (fun _ => False) w ws) (fun s5 _ => l.length - (intOf s5).toNat)
 case atStart => exact ⟨0, by omega, by omega, rfl, Lib.hid (by simp), Mod.refl _ _⟩
 case round =>
  obtain ⟨i, hi1, hi2, rfl, HT, hmw⟩ := hrel
  by_cases hlt : i < l.length
  ·by_cases hlt2 : i < m.length
   ·obtain ⟨x, hx⟩ : ∃ x, l[i]? = some x := ⟨_, List.getElem?_eq_getElem hlt⟩
    obtain ⟨y, hy⟩ : ∃ y, m[i]? = some y := ⟨_, List.getElem?_eq_getElem hlt2⟩
    obtain ⟨g1, o1, C1, U1, fr1, rfl, k1, he1, _⟩ := (HV.out.1.mod0 hmw).block hx
    obtain ⟨g2, o2, C2, U2, fr2, rfl, k2, he2, _⟩ := (HV.out.2.mod0 hmw).block hy
    have q1 : C1[o1 + i]? = some (.int .i64 x.toInt) := by have h0 := cellC he1 (j := 0) (v := .int .i64 x.toInt) rfl; simpa using h0
    have q2 : C2[o2 + i]? = some (.int .i64 y.toInt) := by have h0 := cellC he2 (j := 0) (v := .int .i64 y.toInt) rfl; simpa using h0
    clear he1 he2
    have HX := Lib.hid (And.intro hx hy)
    clear hx hy
    by_cases hxy : x = y
    ·subst hxy
     go_upto_region 4 with fail
     have Lk1 := lt_size k1
     have Lk2 := lt_size k2
     refine wp_pass (C := fun _ _ _ => False) (κ := fun i => [0, 0, 0, 1, 0, 0, 0, 1, 0].getD i 0) [0, 1, 2, 3, 4, 5, 6, 7, 8] (by kernel_rfl) (by kernel_rfl) (fun _ _ d _ _ h => by cases d <;> first | exact h | exact absurd h (hP _ _ _)) ?_
     (refine TD.val0 (v := ?v1) (by simp only [zK]; rfl) rfl (by rfl) (fun w1 => ?y1) ?n1; (case y1 => go_simp; try with_reducible rfl); try simp only [Act.put, zL])
     (refine TD.val0 (v := ?v2) (by simp only [zK]; rfl) rfl (by rfl) (fun w1 => ?y2) ?n2; (case y2 => go_simp; try with_reducible rfl); try simp only [Act.put, zL])
     (refine TD.val0 (v := ?v3) (by simp only [zK]; rfl) rfl (by rfl) (fun w1 => ?y3) ?n3; (case y3 => go_simp; try with_reducible rfl); try simp only [Act.put, zL])
     (refine TD.load (v := ?v4) (p := ?p4) (Mod.refl _ _) (by simp only [zK]; rfl) rfl (by rfl) rfl ?hx4 (fun wq hSq => ?y4) ?n4; (case hx4 => simp only [Act.eval, zM]; try rfl); (case y4 => (have k1q := hSq.at k1 (fun h => h); have k2q := hSq.at k2 (fun h => h); go_simp; (try with_reducible rfl))); try simp only [Act.put, zL])
     (refine TD.val0 (v := ?v5) (by simp only [zK]; rfl) rfl (by rfl) (fun w1 => ?y5) ?n5; (case y5 => go_simp; try with_reducible rfl); try simp only [Act.put, zL])
     (refine TD.val0 (v := ?v6) (by simp only [zK]; rfl) rfl (by rfl) (fun w1 => ?y6) ?n6; (case y6 => go_simp; try with_reducible rfl); try simp only [Act.put, zL])
     (refine TD.val0 (v := ?v7) (by simp only [zK]; rfl) rfl (by rfl) (fun w1 => ?y7) ?n7; (case y7 => go_simp; try with_reducible rfl); try simp only [Act.put, zL])
     (refine TD.load (v := ?v8) (p := ?p8) (Mod.refl _ _) (by simp only [zK]; rfl) rfl (by rfl) rfl ?hx8 (fun wq hSq => ?y8) ?n8; (case hx8 => simp only [Act.eval, zM]; try rfl); (case y8 => (have k1q := hSq.at k1 (fun h => h); have k2q := hSq.at k2 (fun h => h); go_simp; (try with_reducible rfl))); try simp only [Act.put, zL])
     (refine TD.val0 (v := ?v9) (by simp only [zK]; rfl) rfl (by rfl) (fun w1 => ?y9) ?n9; (case y9 => go_simp; try with_reducible rfl); try simp only [Act.put, zL])
     refine TD.nil (fun w2 hr => ?_)
     have k1 := hr.mod.at k1 (fun h => h)
     have k2 := hr.mod.at k2 (fun h => h)
     have mm := hmw.then0 hr.mod
     clear hr
     go_wp2_with fail
     go_roundw
     case rel => exact ⟨i + 1, by omega, by omega, by go_num, Lib.hid (by
      rw [List.take_add_one, List.take_add_one, HT.out, HX.out.1, HX.out.2]), mm⟩
     case measure => simp [intOf]; omega
    ·have hde : (x.toInt != y.toInt) = true := by
      rw [bne_iff_ne]
      exact fun e => hxy (Int64.toInt_inj.1 e)
     have HXY := Lib.hid hxy
     clear hxy
     go_upto_region 4 with fail
     have Lk1 := lt_size k1
     have Lk2 := lt_size k2
     refine wp_pass (C := fun _ _ _ => False) (κ := fun i => [0, 0, 0, 1, 0, 0, 0, 1, 0].getD i 0) [0, 1, 2, 3, 4, 5, 6, 7, 8] (by kernel_rfl) (by kernel_rfl) (fun _ _ d _ _ h => by cases d <;> first | exact h | exact absurd h (hP _ _ _)) ?_
     (refine TD.val0 (v := ?v10) (by simp only [zK]; rfl) rfl (by rfl) (fun w1 => ?y10) ?n10; (case y10 => go_simp; try with_reducible rfl); try simp only [Act.put, zL])
     (refine TD.val0 (v := ?v11) (by simp only [zK]; rfl) rfl (by rfl) (fun w1 => ?y11) ?n11; (case y11 => go_simp; try with_reducible rfl); try simp only [Act.put, zL])
     (refine TD.val0 (v := ?v12) (by simp only [zK]; rfl) rfl (by rfl) (fun w1 => ?y12) ?n12; (case y12 => go_simp; try with_reducible rfl); try simp only [Act.put, zL])
     (refine TD.load (v := ?v13) (p := ?p13) (Mod.refl _ _) (by simp only [zK]; rfl) rfl (by rfl) rfl ?hx13 (fun wq hSq => ?y13) ?n13; (case hx13 => simp only [Act.eval, zM]; try rfl); (case y13 => (have k1q := hSq.at k1 (fun h => h); have k2q := hSq.at k2 (fun h => h); go_simp; (try with_reducible rfl))); try simp only [Act.put, zL])
     (refine TD.val0 (v := ?v14) (by simp only [zK]; rfl) rfl (by rfl) (fun w1 => ?y14) ?n14; (case y14 => go_simp; try with_reducible rfl); try simp only [Act.put, zL])
     (refine TD.val0 (v := ?v15) (by simp only [zK]; rfl) rfl (by rfl) (fun w1 => ?y15) ?n15; (case y15 => go_simp; try with_reducible rfl); try simp only [Act.put, zL])
     (refine TD.val0 (v := ?v16) (by simp only [zK]; rfl) rfl (by rfl) (fun w1 => ?y16) ?n16; (case y16 => go_simp; try with_reducible rfl); try simp only [Act.put, zL])
     (refine TD.load (v := ?v17) (p := ?p17) (Mod.refl _ _) (by simp only [zK]; rfl) rfl (by rfl) rfl ?hx17 (fun wq hSq => ?y17) ?n17; (case hx17 => simp only [Act.eval, zM]; try rfl); (case y17 => (have k1q := hSq.at k1 (fun h => h); have k2q := hSq.at k2 (fun h => h); go_simp; (try with_reducible rfl))); try simp only [Act.put, zL])
     (refine TD.val0 (v := ?v18) (by simp only [zK]; rfl) rfl (by rfl) (fun w1 => ?y18) ?n18; (case y18 => go_simp; try with_reducible rfl); try simp only [Act.put, zL])
     refine TD.nil (fun w2 hr => ?_)
     have k1 := hr.mod.at k1 (fun h => h)
     have k2 := hr.mod.at k2 (fun h => h)
     have mm := hmw.then0 hr.mod
     clear hr
     go_wp2_with fail
     go_ret
     refine ⟨?_, mm⟩
     rw [decide_eq_false (fun e => by
      subst e
      have := HX.out.1.symm.trans HX.out.2
      exact HXY.out (by injection this))]
     rfl
   ·have hne : ((l.length : Int) == (m.length : Int)) = false := by rw [beq_eq_false_iff_ne]; omega
    go_wp2_with fail
    go_ret
    refine ⟨?_, hmw⟩
    rw [decide_eq_false (fun e => by rw [e] at hlt; omega)]
    rfl
  ·have hie : i = l.length := by omega
   by_cases hle : l.length = m.length
   ·have hll : l = m := by
     have := HT.out
     rw [List.take_of_length_le (by omega), List.take_of_length_le (by omega)] at this
     exact this
    have HLL := Lib.hid hll
    clear hll
    have hne : ((l.length : Int) == (m.length : Int)) = true := by rw [beq_iff_eq]; omega
    clear hle
    go_wp2_with fail
    go_ret
    exact ⟨by rw [decide_eq_true HLL.out]; rfl, hmw⟩
   ·have hne : ((l.length : Int) == (m.length : Int)) = false := by rw [beq_eq_false_iff_ne]; omega
    go_wp2_with fail
    go_ret
    refine ⟨?_, hmw⟩
    rw [decide_eq_false (fun e => hle (by rw [e]))]
    rfl
structure En where
 r : Rk
 id : Int64
 ok : Bool
def env (e : En) : Value := .tuple #[.agg (rkc e.r), .int .i64 e.id.toInt, .bool e.ok]
def enOf : Option Nd → En
 | none => ⟨rk0, 0, false⟩
 | some x => ⟨x.r, x.id, true⟩
theorem Srt.head {x : Nd} {l : List Nd} (h : Srt (x :: l)) : ∀ y ∈ x :: l, nlt y x = false := fun y hy => by
 rcases List.mem_cons.1 hy with rfl | hy
 ·exact nlt_irrefl _
 ·exact nlt_asymm (List.rel_of_pairwise_cons h hy)
theorem Srt.last {x : Nd} {l : List Nd} (h : Srt (l ++ [x])) : ∀ y ∈ l ++ [x], nlt x y = false := fun y hy => by
 rcases List.mem_append.1 hy with hy | hy
 ·exact nlt_asymm ((List.pairwise_append.1 h).2.2 y hy x (by simp))
 ·rw [List.mem_singleton.1 hy]
  exact nlt_irrefl _
theorem best_top {C D : List Nd} {x y : Nd} (hD : D.Perm C) (hS : Srt D) (hb : Best false C x) (hh : D.head? = some y) : x = y := by
 match D, hh with
 | z :: r, hh =>
  simp only [List.head?_cons, Option.some.injEq] at hh
  subst hh
  exact nlt_total (hS.head x (hD.mem_iff.2 hb.1)) (hb.2 z (hD.mem_iff.1 (by simp)))
theorem best_bot {C D : List Nd} {x y : Nd} (hD : D.Perm C) (hS : Srt D) (hb : Best true C x) (hh : D.getLast? = some y) : x = y := by
 obtain ⟨r, rfl⟩ : ∃ r, D = r ++ [y] := by
  obtain ⟨h1, h2⟩ := List.getLast?_eq_some_iff.1 hh
  exact ⟨_, h2⟩
 exact nlt_total (hb.2 y (hD.mem_iff.1 (by simp))) (hS.last x (hD.mem_iff.2 hb.1))
theorem endS0 {C D : List Nd} (hD : D.Perm C) : C = [] ↔ D = [] := ⟨fun h => by subst h; exact hD.eq_nil, fun h => by subst h; exact hD.symm.eq_nil⟩
theorem srt_unique : ∀ {l D : List Nd}, l.Perm D → Srt l → Srt D → l = D
 | [], D, h, _, _ => h.nil_eq
 | x :: l, [], h, _, _ => absurd h.length_eq (by simp)
 | x :: l, y :: D, h, h1, h2 => by
  have e1 := h1.head y (h.mem_iff.2 (by simp))
  have e2 := h2.head x (h.mem_iff.1 (by simp))
  have e := nlt_total e1 e2
  subst e
  rw [srt_unique h.cons_inv (List.Pairwise.of_cons h1) (List.Pairwise.of_cons h2)]
set_option maxRecDepth 20000 in
set_option maxHeartbeats 3200000 in
theorem top0_c {h : Nat} {T : Nat → Prop} {w : World} (hA : HAt h [] T w) : Calls Tryz.prog 44 #[ptrV h] w fun e w' => e = .returned (.tuple #[.agg (rkc rk0), .int .i64 0, .bool false]) ∧ Mod (fun _ => False) w w' := by
 have HA := Lib.hid hA
 clear hA
 go_enter Tryz.func44, Tryz.ntmps44
 go_upto_region 0 with fail
 refine wp_pass0 (C := fun _ _ _ => False) (κ := fun i => [3, 0, 0].getD i 0) [0, 1, 2] (by kernel_rfl) (by kernel_rfl) (fun _ _ d _ _ h => by cases d <;> first | exact h | exact absurd h (hP _ _ _)) ?_
 (refine TD.allocB (by simp only [zK]; rfl) rfl (by rfl) rfl rfl alRk (fun p2 hp2 => ?n19); try simp only [Act.put, zL])
 (refine TD.val0 (v := ?v20) (by simp only [zK]; rfl) rfl (by rfl) (fun w1 => ?y20) ?n20; (case y20 => go_simp; try with_reducible rfl); try simp only [Act.put, zL])
 (refine TD.val0 (v := ?v21) (by simp only [zK]; rfl) rfl (by rfl) (fun w1 => ?y21) ?n21; (case y21 => go_simp; try with_reducible rfl); try simp only [Act.put, zL])
 refine TD.nil (fun w1 hr => ?_)
 have kp2 := hr.box p2 _ (by first | exact Bx.set_same _ _ _ | (simp only [Bx.set_same]; rfl)); dsimp only [Value.cells] at kp2; obtain ⟨gp2, kp2⟩ := kp2
 have m1 := hr.mod
 clear hr
 have hA1 := (HAt.good h []).cl T w w1 HA.out (m1.mono (fun _ _ h => h.elim))
 have hcall : ∀ wq, Mod (fun _ => False) w1 wq → Calls Tryz.prog 67 #[ptrV h, .int .i64 0] wq fun e w' => e = .returned (.tuple #[.agg (rkc rk0), .int .i64 0, .bool false]) ∧ Mod (fun _ => False) wq w' := fun wq hq => end0_c ((HAt.good h []).cl T w1 wq hA1 (hq.mono (fun _ _ h => h.elim))) 0
 have HC := Lib.hid hcall
 clear hA1 hcall
 replace kp2 : w1.heap[p2]? = some (.cells #[.int .u64 0, .int .u64 0] 109 (0, 0)) := kp2
 go_upto_region 1 with fail
 have Lkp2 := lt_size kp2
 refine wp_pass0 (C := fun _ _ v => v = .tuple #[.agg (rkc rk0), .int .i64 0, .bool false]) (κ := fun i => [0, 2, 0, 0, 0, 5, 0, 0].getD i 0) [0, 1, 2, 3, 4, 5, 6, 7] (by kernel_rfl) (by kernel_rfl) (fun _ _ d _ _ h => by cases d <;> first | exact h | exact absurd h (hP _ _ _)) ?_
 (refine TD.val0 (v := ?v22) (by simp only [zK]; rfl) rfl (by rfl) (fun w1 => ?y22) ?n22; (case y22 => go_simp; try with_reducible rfl); try simp only [Act.put, zL])
 (refine TD.call (f := ?f23) (args := ?r23) (Mod.refl _ _) (by simp only [zK]; rfl) rfl (by rfl) (fun w1 => ?y23) ?hsp23 ?n23; (case y23 => (go_simp; (first | with_reducible rfl | (constructor <;> with_reducible rfl)))); (case hsp23 => (intro wq hSq; have kp2q := hSq.at kp2 (fun h => h); exact (HC.out wq hSq).mono (fun e w' h => ⟨_, h.1, rfl, h.2⟩))); rintro _ rfl; try simp only [Act.put, zL])
 (refine TD.val0 (v := ?v24) (by simp only [zK]; rfl) rfl (by rfl) (fun w1 => ?y24) ?n24; (case y24 => go_simp; try with_reducible rfl); try simp only [Act.put, zL])
 (refine TD.val0 (v := ?v25) (by simp only [zK]; rfl) rfl (by rfl) (fun w1 => ?y25) ?n25; (case y25 => go_simp; try with_reducible rfl); try simp only [Act.put, zL])
 (refine TD.val0 (v := ?v26) (by simp only [zK]; rfl) rfl (by rfl) (fun w1 => ?y26) ?n26; (case y26 => go_simp; try with_reducible rfl); try simp only [Act.put, zL])
 refine TD.eff (by simp only [zK]; rfl) rfl (fun w2 hr => ?_)
 have kp2 := hr.mod.at kp2 (fun h => h)
 have m2 := m1.then0 hr.mod
 clear hr
 (refine eff_store (X := ?X28) (Y := ?Y28) (w' := ?w28) (by simp only [zK]; rfl) (by rfl) rfl ?hx28 ?hz28 ?y28 ?n28; (case hx28 => simp only [Act.eval, zM]; try rfl); (case hz28 => simp only [Act.eval, zM]; try rfl); (case y28 => go_simp; try with_reducible rfl))
 (first | refine TE.mid_set kp2 (fun wn kp2 mS => ?_) | refine TE.mid_setCell kp2 (fun wn kp2 mS => ?_))
 (try simp only [Array.setIfInBounds, zL] at kp2)
 have m3 := m2.thenB mS (.inl gp2)
 clear mS
 (refine TE.val0 (v := ?v29) (by simp only [zK]; rfl) (by rfl) (fun w1 => ?y29) ?n29; (case y29 => go_simp; try with_reducible rfl); try simp only [Act.put, zL])
 (refine TE.val0 (v := ?v30) (by simp only [zK]; rfl) (by rfl) (fun w1 => ?y30) ?n30; (case y30 => go_simp; try with_reducible rfl); try simp only [Act.put, zL])
 refine TE.nil ?_
 go_wp2_with fail
 exact bodyPost_ret (results_cell3 (x := .agg (rkc rk0)) rfl rfl (by rw [ldRk]; simp [kp2, rkc, rk0])) rfl ⟨rfl, m3⟩
set_option maxRecDepth 20000 in
set_option maxHeartbeats 3200000 in
theorem bot0_c {h : Nat} {T : Nat → Prop} {w : World} (hA : HAt h [] T w) : Calls Tryz.prog 38 #[ptrV h] w fun e w' => e = .returned (.tuple #[.agg (rkc rk0), .int .i64 0, .bool false]) ∧ Mod (fun _ => False) w w' := by
 have HA := Lib.hid hA
 clear hA
 go_enter Tryz.func38, Tryz.ntmps38
 go_upto_region 0 with fail
 refine wp_pass0 (C := fun _ _ _ => False) (κ := fun i => [3, 0, 0].getD i 0) [0, 1, 2] (by kernel_rfl) (by kernel_rfl) (fun _ _ d _ _ h => by cases d <;> first | exact h | exact absurd h (hP _ _ _)) ?_
 (refine TD.allocB (by simp only [zK]; rfl) rfl (by rfl) rfl rfl alRk (fun p2 hp2 => ?n31); try simp only [Act.put, zL])
 (refine TD.val0 (v := ?v32) (by simp only [zK]; rfl) rfl (by rfl) (fun w1 => ?y32) ?n32; (case y32 => go_simp; try with_reducible rfl); try simp only [Act.put, zL])
 (refine TD.val0 (v := ?v33) (by simp only [zK]; rfl) rfl (by rfl) (fun w1 => ?y33) ?n33; (case y33 => go_simp; try with_reducible rfl); try simp only [Act.put, zL])
 refine TD.nil (fun w1 hr => ?_)
 have kp2 := hr.box p2 _ (by first | exact Bx.set_same _ _ _ | (simp only [Bx.set_same]; rfl)); dsimp only [Value.cells] at kp2; obtain ⟨gp2, kp2⟩ := kp2
 have m1 := hr.mod
 clear hr
 have hA1 := (HAt.good h []).cl T w w1 HA.out (m1.mono (fun _ _ h => h.elim))
 have hcall : ∀ wq, Mod (fun _ => False) w1 wq → Calls Tryz.prog 67 #[ptrV h, .int .i64 1] wq fun e w' => e = .returned (.tuple #[.agg (rkc rk0), .int .i64 0, .bool false]) ∧ Mod (fun _ => False) wq w' := fun wq hq => end0_c ((HAt.good h []).cl T w1 wq hA1 (hq.mono (fun _ _ h => h.elim))) 1
 have HC := Lib.hid hcall
 clear hA1 hcall
 replace kp2 : w1.heap[p2]? = some (.cells #[.int .u64 0, .int .u64 0] 109 (0, 0)) := kp2
 go_upto_region 1 with fail
 have Lkp2 := lt_size kp2
 refine wp_pass0 (C := fun _ _ v => v = .tuple #[.agg (rkc rk0), .int .i64 0, .bool false]) (κ := fun i => [0, 2, 0, 0, 0, 5, 0, 0].getD i 0) [0, 1, 2, 3, 4, 5, 6, 7] (by kernel_rfl) (by kernel_rfl) (fun _ _ d _ _ h => by cases d <;> first | exact h | exact absurd h (hP _ _ _)) ?_
 (refine TD.val0 (v := ?v34) (by simp only [zK]; rfl) rfl (by rfl) (fun w1 => ?y34) ?n34; (case y34 => go_simp; try with_reducible rfl); try simp only [Act.put, zL])
 (refine TD.call (f := ?f35) (args := ?r35) (Mod.refl _ _) (by simp only [zK]; rfl) rfl (by rfl) (fun w1 => ?y35) ?hsp35 ?n35; (case y35 => (go_simp; (first | with_reducible rfl | (constructor <;> with_reducible rfl)))); (case hsp35 => (intro wq hSq; have kp2q := hSq.at kp2 (fun h => h); exact (HC.out wq hSq).mono (fun e w' h => ⟨_, h.1, rfl, h.2⟩))); rintro _ rfl; try simp only [Act.put, zL])
 (refine TD.val0 (v := ?v36) (by simp only [zK]; rfl) rfl (by rfl) (fun w1 => ?y36) ?n36; (case y36 => go_simp; try with_reducible rfl); try simp only [Act.put, zL])
 (refine TD.val0 (v := ?v37) (by simp only [zK]; rfl) rfl (by rfl) (fun w1 => ?y37) ?n37; (case y37 => go_simp; try with_reducible rfl); try simp only [Act.put, zL])
 (refine TD.val0 (v := ?v38) (by simp only [zK]; rfl) rfl (by rfl) (fun w1 => ?y38) ?n38; (case y38 => go_simp; try with_reducible rfl); try simp only [Act.put, zL])
 refine TD.eff (by simp only [zK]; rfl) rfl (fun w2 hr => ?_)
 have kp2 := hr.mod.at kp2 (fun h => h)
 have m2 := m1.then0 hr.mod
 clear hr
 (refine eff_store (X := ?X40) (Y := ?Y40) (w' := ?w40) (by simp only [zK]; rfl) (by rfl) rfl ?hx40 ?hz40 ?y40 ?n40; (case hx40 => simp only [Act.eval, zM]; try rfl); (case hz40 => simp only [Act.eval, zM]; try rfl); (case y40 => go_simp; try with_reducible rfl))
 (first | refine TE.mid_set kp2 (fun wn kp2 mS => ?_) | refine TE.mid_setCell kp2 (fun wn kp2 mS => ?_))
 (try simp only [Array.setIfInBounds, zL] at kp2)
 have m3 := m2.thenB mS (.inl gp2)
 clear mS
 (refine TE.val0 (v := ?v41) (by simp only [zK]; rfl) (by rfl) (fun w1 => ?y41) ?n41; (case y41 => go_simp; try with_reducible rfl); try simp only [Act.put, zL])
 (refine TE.val0 (v := ?v42) (by simp only [zK]; rfl) (by rfl) (fun w1 => ?y42) ?n42; (case y42 => go_simp; try with_reducible rfl); try simp only [Act.put, zL])
 refine TE.nil ?_
 go_wp2_with fail
 exact bodyPost_ret (results_cell3 (x := .agg (rkc rk0)) rfl rfl (by rw [ldRk]; simp [kp2, rkc, rk0])) rfl ⟨rfl, m3⟩
section
variable {h p : Nat} {C D : List Nd} {T : Nat → Prop} {w : World}
theorem topS_c (hA : HAt h C T w) (hD : D.Perm C) (hS : Srt D) : Calls Tryz.prog 44 #[ptrV h] w fun e w' => e = .returned (env (enOf D.head?)) ∧ Mod (fun _ => False) w w' := by
 match D, hD, hS with
 | [], hD, _ =>
  obtain rfl := (endS0 hD).2 rfl
  exact top0_c hA
 | y :: r, hD, hS =>
  refine (top_c hA (fun e => by have := (endS0 hD).1 e; cases this)).mono ?_
  rintro e w' ⟨x, hx, rfl, hm⟩
  rw [best_top hD hS hx rfl]
  exact ⟨rfl, hm⟩
theorem botS_c (hA : HAt h C T w) (hD : D.Perm C) (hS : Srt D) : Calls Tryz.prog 38 #[ptrV h] w fun e w' => e = .returned (env (enOf D.getLast?)) ∧ Mod (fun _ => False) w w' := by
 by_cases he : D = []
 ·subst he
  obtain rfl := (endS0 hD).2 rfl
  exact bot0_c hA
 ·refine (bot_c hA (fun e => he ((endS0 hD).1 e))).mono ?_
  rintro e w' ⟨x, hx, rfl, hm⟩
  have hl := List.getLast?_eq_some_getLast he
  rw [hl, best_bot hD hS hx hl]
  exact ⟨rfl, hm⟩
theorem listS_c (hA : HAt h C T w) (hD : D.Perm C) (hS : Srt D) (hC : C.length ≤ 700000) : Calls Tryz.prog 47 #[ptrV h] w fun e w' => ∃ v, e = .returned v ∧ SlOwn ic 1 3 w' w.heap.size v (D.map Nd.id) ∧ Mod (fun _ => False) w w' :=
 (list_c hA hC).mono fun e w' h => by
  obtain ⟨v, l, he, hp, hs, ho, hm⟩ := h
  obtain rfl := srt_unique (hp.trans hD.symm) hs hS
  exact ⟨v, he, ho, hm⟩
end
end Go.Proofs.YtdeghpmlhcaedaaGreatDoor
namespace Go.Proofs.YtdeghpmlhcaedaaGreatDoor
open Go.RowKit
open Go.ChangeMaps (setBlock)
attribute [local go_sem] cell_blk frozen_blk one_int one_bool one_ptr one_slice one_map Value.cells
section
variable {α : Type} {P : Program} {T E : TypeId} {f : α → Array Value} {n B : Nat}
theorem sl_clip (hT : ElT P T E f n B) {g o cap len : Nat} (hk : len ≤ cap) (w : World) :
  (Instr.sliceAt T (.slice (some ⟨g, o, none⟩) len cap) none (some (.int .i64 (len : Int))) (some (.int .i64 (len : Int)))).run P w = .ok (.slice (some ⟨g, o, none⟩) len len) w := by
 obtain ⟨i0, z, hi, hz, hz1, hz2, hz3⟩ := hT.info
 have hadd : (⟨g, o, none⟩ : Addr).add (0 * n) = ⟨g, o, none⟩ := by
  unfold Addr.add
  rw [Nat.zero_mul, if_pos rfl]
 have hp : (0 : Int) ≤ (len : Int) ∧ (len : Int) ≤ (cap : Int) := ⟨by omega, by omega⟩
 have hp2 : (0 : Int) ≤ (len : Int) ∧ (len : Int) ≤ (len : Int) := ⟨by omega, by omega⟩
 simp only [Instr.sliceAt, Instr.slice, Instr.sliceBounds, Instr.sliceBound, asIntOf, sizeOf, typeInfo, run_underlying hT.u, hi, Sem.run_bind, Sem.run_pure, Result.andThen_ok]
 rw [if_pos hp]
 simp only [Sem.run_pure, Result.andThen_ok, Go.program, Sem.run, hi, hz1, Option.map_some, Int.toNat_natCast, hadd, Nat.sub_zero, ite_self, hp2, and_self, if_true]
theorem sl_clip0 (hT : ElT P T E f n B) (w : World) :
  (Instr.sliceAt T (.slice none 0 0) none (some (.int .i64 0)) (some (.int .i64 0))).run P w = .ok (.slice none 0 0) w := by
 obtain ⟨i0, z, hi, hz, hz1, hz2, hz3⟩ := hT.info
 simp only [Instr.sliceAt, Instr.slice, Instr.sliceBounds, Instr.sliceBound, asIntOf, sizeOf, typeInfo, run_underlying hT.u, hi, Sem.run_bind, Sem.run_pure, Result.andThen_ok]
 rw [if_pos ⟨by omega, by omega⟩]
 simp [Sem.run_pure, Result.andThen_ok, Go.program, Sem.run, hi, hz1]
end
section
variable {α : Type} {P : Program} {T E : TypeId} {f : α → Array Value} {n B : Nat}
def NewS (f : α → Array Value) (n : Nat) (E : TypeId) (base : Nat) (w : World) (v : Value) (l : List α) : Prop :=
 (v = .slice none 0 0 ∧ l = []) ∨ ∃ g cur, v = .slice (some ⟨g, 0, none⟩) l.length l.length ∧ base ≤ g ∧ w.heap[g]? = some (.cells cur E (0, 0)) ∧ ∀ (i : Nat) x, l[i]? = some x → cur.extract (i * n) (i * n + n) = f x ∧ i * n + n ≤ cur.size
theorem NewS.at {base : Nat} {w : World} {v : Value} {l : List α} (h : NewS f n E base w v l) : ∃ a, v = .slice a l.length l.length ∧ SlAt f n w a l ∧ ∀ g o, a = some ⟨g, o, none⟩ → base ≤ g ∧ g < w.heap.size := by
 rcases h with ⟨rfl, rfl⟩ | ⟨g, cur, rfl, hb, hg, hc⟩
 ·exact ⟨none, rfl, .inl rfl, fun g o e => by cases e⟩
 ·exact ⟨_, rfl, .inr ⟨g, 0, cur, _, _, rfl, hg, fun i x hx => by simpa using hc i x hx⟩, fun g' o e => by cases e; exact ⟨hb, lt_size hg⟩⟩
theorem NewS.mod {base : Nat} {w w' : World} {v : Value} {l : List α} {S : Nat → Prop} (h : NewS f n E base w v l) (hm : Mod S w w') (hS : ∀ g, v.ownBlock = some g → ¬ S g) : NewS f n E base w' v l := by
 rcases h with h | ⟨g, cur, rfl, hb, hg, hc⟩
 ·exact .inl h
 ·exact .inr ⟨g, cur, rfl, hb, hm.at hg (hS g rfl), hc⟩
theorem NewS.mod0 {base : Nat} {w w' : World} {v : Value} {l : List α} (h : NewS f n E base w v l) (hm : Mod (fun _ => False) w w') : NewS f n E base w' v l := h.mod hm (fun _ _ h => h)
theorem NewS.base {b b' : Nat} {w : World} {v : Value} {l : List α} (h : NewS f n E b w v l) (hb : b' ≤ b) : NewS f n E b' w v l := by
 rcases h with h | ⟨g, cur, e, h1, h2⟩
 ·exact .inl h
 ·exact .inr ⟨g, cur, e, Nat.le_trans hb h1, h2⟩
theorem NewS.lt {base : Nat} {w : World} {v : Value} {l : List α} (h : NewS f n E base w v l) : ∀ g, v.ownBlock = some g → base ≤ g ∧ g < w.heap.size := by
 intro g hg
 rcases h with ⟨rfl, _⟩ | ⟨g', cur, rfl, h1, h2, _⟩
 ·cases hg
 ·cases hg
  exact ⟨h1, lt_size h2⟩
theorem own_e {w : World} {base q : Nat} (hb : base ≤ q) (hg : w.heap[q]? = some (.cells #[] E (0, 0))) : SlOwn f n E w base (.slice (some ⟨q, 0, none⟩) 0 0) ([] : List α) :=
 ⟨by simp [cellsOf], .inr ⟨q, 0, #[], rfl, hb, hg, Nat.le_refl _, by simp [maxLen], by simp, by simp [cellsOf]⟩⟩
theorem SlOwn.clip (hT : ElT P T E f n B) {w : World} {base : Nat} {v : Value} {l : List α} (h : SlOwn f n E w base v l) :
  ∃ a c v2, v = .slice a l.length c ∧ (∀ w2, (Instr.sliceAt T v none (some (.int .i64 (l.length : Int))) (some (.int .i64 (l.length : Int)))).run P w2 = .ok v2 w2) ∧ NewS f n E base w v2 l := by
 rcases h.2 with ⟨rfl, hn⟩ | ⟨g, cap, cur, rfl, hb, hg, hnc, hcm, hcs, htake⟩
 ·obtain rfl : l = [] := List.eq_nil_of_length_eq_zero hn
  exact ⟨none, 0, _, rfl, fun w2 => sl_clip0 hT w2, .inl ⟨rfl, rfl⟩⟩
 ·refine ⟨_, cap, _, rfl, fun w2 => sl_clip hT hnc w2, .inr ⟨g, cur, rfl, hb, hg, fun i x hx => ?_⟩⟩
  obtain ⟨a, c, e, hat, _⟩ := h.at hT
  injection e with e1 _ _
  subst e1
  obtain ⟨b, o, C, U, fr, e2, hb2, he, hle⟩ := hat.block hx
  cases e2
  rw [hg] at hb2
  cases hb2
  simpa using And.intro he hle
end
theorem bsEB (w : World) : (Instr.buildSlice 40 0 #[]).run Tryz.prog w = .ok (.slice (some ⟨w.heap.size, 0, none⟩) 0 0) (w.alloc (.cells #[] 5)) := by kernel_rfl
theorem eqNilB (w : World) (a : Option Addr) (n c : Nat) : (binOp .eql 40 (.slice a n c) (.slice none 0 0)).run Tryz.prog w = .ok (.bool a.isNone) w := by
 cases a <;> kernel_rfl
set_option maxRecDepth 20000 in
set_option maxHeartbeats 1600000 in
theorem cloneB_c {w : World} {a : Option Addr} {l : List UInt8} {c : Nat} (hl : SlAt uc 1 w a l) (hlen : l.length ≤ 1000000) : Calls Tryz.prog 77 #[.slice a l.length c] w fun e w' => ∃ v, e = .returned v ∧ SlOwn uc 1 5 w' w.heap.size v l ∧ Mod (fun _ => False) w w' := by
 have he := eqNilB
 cases a with
 | none =>
  obtain rfl : l = [] := by
   rcases hl with h | ⟨_, _, _, _, _, h, _⟩
   ·exact h
   ·cases h
  go_enter Tryz.func77, Tryz.ntmps77
  go_wp2_with fail
  go_ret
  exact ⟨_, rfl, SlOwn.nil _ _, Mod.refl _ _⟩
 | some p =>
  have HL := Lib.hid hl
  have hbs := bsEB
  generalize hll : l.length = ll at *
  have HLL := Lib.hid hll
  clear hl hll
  go_enter Tryz.func77, Tryz.ntmps77
  go_upto_region 3 with fail
  refine wp_pass0 (C := fun _ _ _ => False) (κ := fun i => [3, 0, 5, 0].getD i 0) [0, 1, 2, 3] (by kernel_rfl) (by kernel_rfl) (fun _ _ d _ _ h => by cases d <;> first | exact h | exact absurd h (hP _ _ _)) ?_
  (refine TD.bslice (by simp only [zK]; rfl) rfl (by rfl) rfl rfl ?hx1 hbs (fun p5 hp5 => ?n1); (case hx1 => (simp only [List.map_toArray, List.map_cons, List.map_nil, Act.eval, zM]; (try rfl))); try simp only [Act.put, zL])
  (refine TD.val0 (v := ?v2) (by simp only [zK]; rfl) rfl (by rfl) (fun w1 => ?y2) ?n2; (case y2 => go_simp; try with_reducible rfl); try simp only [Act.put, zL])
  refine TD.eff (by simp only [zK]; rfl) rfl (fun w1 hr => ?_)
  have kp5 := hr.box p5 _ (by first | exact Bx.set_same _ _ _ | (simp only [Bx.set_same]; rfl)); dsimp only [Value.cells] at kp5; obtain ⟨gp5, kp5⟩ := kp5
  have m1 := hr.mod
  clear hr
  obtain ⟨v3, w6, hap, hO6, m6, hn6⟩ := SlOwn.append bytesT (c := c) (own_e (f := uc) (n := 1) gp5 kp5) (HL.out.mod0 m1) (by simp; have := HLL.out; omega) (by decide) m1.size 40
  have mF : Mod (fun _ => False) w w6 := m1.then m6 (fun i hi e => by
   have e2 : p5 = i := Option.some.inj e
   omega)
  rw [HLL.out] at hap
  have HO := Lib.hid hO6
  clear hn6 m6 hO6
  (refine eff_append (by simp only [zK]; rfl) (by rfl) rfl ?hx4 ?hz4 hap ?n4; (case hx4 => simp only [Act.eval, zM]; try rfl); (case hz4 => simp only [Act.eval, zM]; try rfl); try simp only [Act.put, zL])
  (refine TE.val0 (v := ?v5) (by simp only [zK]; rfl) (by rfl) (fun w1 => ?y5) ?n5; (case y5 => go_simp; try with_reducible rfl); try simp only [Act.put, zL])
  refine TE.nil ?_
  go_wp2_with fail
  go_ret
  exact ⟨_, rfl, HO.out, mF⟩
set_option maxRecDepth 20000 in
theorem clipB_c (v2 : Value) (w : World) (n : Nat) {a : Option Addr} {c : Nat} (h : ∀ w2, (Instr.sliceAt 40 (.slice a n c) none (some (.int .i64 (n : Int))) (some (.int .i64 (n : Int)))).run Tryz.prog w2 = .ok v2 w2) :
  Calls Tryz.prog 76 #[.slice a n c] w fun e w' => e = .returned v2 ∧ w' = w := by
 go_enter Tryz.func76, Tryz.ntmps76
 go_wp2_with fail
 go_ret
 exact ⟨rfl, rfl⟩
set_option maxRecDepth 20000 in
set_option maxHeartbeats 1600000 in
theorem ownB_c {w : World} {a : Option Addr} {l : List UInt8} {c : Nat} (hl : SlAt uc 1 w a l) (hlen : l.length ≤ 1000000) : Calls Tryz.prog 60 #[.slice a l.length c] w fun e w' => ∃ v, e = .returned v ∧ NewS uc 1 5 w.heap.size w' v l ∧ Mod (fun _ => False) w w' := by
 have HC := Lib.hid (fun (_ : True) => cloneB_c (c := c) hl hlen)
 generalize hll : l.length = ll at *
 have HLL := Lib.hid hll
 clear hl hlen hll
 go_enter Tryz.func60, Tryz.ntmps60
 go_wp2_with fail
 go_at_call 77
 refine (HC.out trivial).mono ?_
 rintro e w1 ⟨v, rfl, hO, m1⟩
 obtain ⟨a2, c2, v2, rfl, hcl, hN⟩ := hO.clip bytesT
 have HN := Lib.hid hN
 rw [HLL.out] at hcl
 have HCL := Lib.hid hcl
 rw [HLL.out]
 clear hO hN hcl
 go_wp2_with fail
 go_at_call 76
 refine (clipB_c v2 _ ll HCL.out).mono ?_
 rintro e w2 ⟨rfl, rfl⟩
 go_wp2_with fail
 go_ret
 exact ⟨_, rfl, HN.out, m1⟩
theorem bsER (w : World) : (Instr.buildSlice 53 0 #[]).run Tryz.prog w = .ok (.slice (some ⟨w.heap.size, 0, none⟩) 0 0) (w.alloc (.cells #[] 91)) := by kernel_rfl
theorem eqNilR (w : World) (a : Option Addr) (n c : Nat) : (binOp .eql 53 (.slice a n c) (.slice none 0 0)).run Tryz.prog w = .ok (.bool a.isNone) w := by
 cases a <;> kernel_rfl
set_option maxRecDepth 20000 in
set_option maxHeartbeats 1600000 in
theorem cloneR_c {w : World} {a : Option Addr} {l : List Role} {c : Nat} (hl : SlAt rcr 34 w a l) (hlen : l.length ≤ 1000000) : Calls Tryz.prog 79 #[.slice a l.length c] w fun e w' => ∃ v, e = .returned v ∧ SlOwn rcr 34 91 w' w.heap.size v l ∧ Mod (fun _ => False) w w' := by
 have he := eqNilR
 cases a with
 | none =>
  obtain rfl : l = [] := by
   rcases hl with h | ⟨_, _, _, _, _, h, _⟩
   ·exact h
   ·cases h
  go_enter Tryz.func79, Tryz.ntmps79
  go_wp2_with fail
  go_ret
  exact ⟨_, rfl, SlOwn.nil _ _, Mod.refl _ _⟩
 | some p =>
  have HL := Lib.hid hl
  have hbs := bsER
  generalize hll : l.length = ll at *
  have HLL := Lib.hid hll
  clear hl hll
  go_enter Tryz.func79, Tryz.ntmps79
  go_upto_region 3 with fail
  refine wp_pass0 (C := fun _ _ _ => False) (κ := fun i => [3, 0, 5, 0].getD i 0) [0, 1, 2, 3] (by kernel_rfl) (by kernel_rfl) (fun _ _ d _ _ h => by cases d <;> first | exact h | exact absurd h (hP _ _ _)) ?_
  (refine TD.bslice (by simp only [zK]; rfl) rfl (by rfl) rfl rfl ?hx6 hbs (fun p5 hp5 => ?n6); (case hx6 => (simp only [List.map_toArray, List.map_cons, List.map_nil, Act.eval, zM]; (try rfl))); try simp only [Act.put, zL])
  (refine TD.val0 (v := ?v7) (by simp only [zK]; rfl) rfl (by rfl) (fun w1 => ?y7) ?n7; (case y7 => go_simp; try with_reducible rfl); try simp only [Act.put, zL])
  refine TD.eff (by simp only [zK]; rfl) rfl (fun w1 hr => ?_)
  have kp5 := hr.box p5 _ (by first | exact Bx.set_same _ _ _ | (simp only [Bx.set_same]; rfl)); dsimp only [Value.cells] at kp5; obtain ⟨gp5, kp5⟩ := kp5
  have m1 := hr.mod
  clear hr
  obtain ⟨v3, w6, hap, hO6, m6, hn6⟩ := SlOwn.append rolesT (c := c) (own_e (f := rcr) (n := 34) gp5 kp5) (HL.out.mod0 m1) (by simp; have := HLL.out; omega) (by decide) m1.size 53
  have mF : Mod (fun _ => False) w w6 := m1.then m6 (fun i hi e => by
   have e2 : p5 = i := Option.some.inj e
   omega)
  rw [HLL.out] at hap
  have HO := Lib.hid hO6
  clear hn6 m6 hO6
  (refine eff_append (by simp only [zK]; rfl) (by rfl) rfl ?hx9 ?hz9 hap ?n9; (case hx9 => simp only [Act.eval, zM]; try rfl); (case hz9 => simp only [Act.eval, zM]; try rfl); try simp only [Act.put, zL])
  (refine TE.val0 (v := ?v10) (by simp only [zK]; rfl) (by rfl) (fun w1 => ?y10) ?n10; (case y10 => go_simp; try with_reducible rfl); try simp only [Act.put, zL])
  refine TE.nil ?_
  go_wp2_with fail
  go_ret
  exact ⟨_, rfl, HO.out, mF⟩
set_option maxRecDepth 20000 in
theorem clipR_c (v2 : Value) (w : World) (n : Nat) {a : Option Addr} {c : Nat} (h : ∀ w2, (Instr.sliceAt 53 (.slice a n c) none (some (.int .i64 (n : Int))) (some (.int .i64 (n : Int)))).run Tryz.prog w2 = .ok v2 w2) :
  Calls Tryz.prog 78 #[.slice a n c] w fun e w' => e = .returned v2 ∧ w' = w := by
 go_enter Tryz.func78, Tryz.ntmps78
 go_wp2_with fail
 go_ret
 exact ⟨rfl, rfl⟩
set_option maxRecDepth 20000 in
set_option maxHeartbeats 1600000 in
theorem ownR_c {w : World} {a : Option Addr} {l : List Role} {c : Nat} (hl : SlAt rcr 34 w a l) (hlen : l.length ≤ 1000000) : Calls Tryz.prog 61 #[.slice a l.length c] w fun e w' => ∃ v, e = .returned v ∧ NewS rcr 34 91 w.heap.size w' v l ∧ Mod (fun _ => False) w w' := by
 have HC := Lib.hid (fun (_ : True) => cloneR_c (c := c) hl hlen)
 generalize hll : l.length = ll at *
 have HLL := Lib.hid hll
 clear hl hlen hll
 go_enter Tryz.func61, Tryz.ntmps61
 go_wp2_with fail
 go_at_call 79
 refine (HC.out trivial).mono ?_
 rintro e w1 ⟨v, rfl, hO, m1⟩
 obtain ⟨a2, c2, v2, rfl, hcl, hN⟩ := hO.clip rolesT
 have HN := Lib.hid hN
 rw [HLL.out] at hcl
 have HCL := Lib.hid hcl
 rw [HLL.out]
 clear hO hN hcl
 go_wp2_with fail
 go_at_call 78
 refine (clipR_c v2 _ ll HCL.out).mono ?_
 rintro e w2 ⟨rfl, rfl⟩
 go_wp2_with fail
 go_ret
 exact ⟨_, rfl, HN.out, m1⟩
theorem bsES (w : World) : (Instr.buildSlice 41 0 #[]).run Tryz.prog w = .ok (.slice (some ⟨w.heap.size, 0, none⟩) 0 0) (w.alloc (.cells #[] 134)) := by kernel_rfl
theorem eqNilS (w : World) (a : Option Addr) (n c : Nat) : (binOp .eql 41 (.slice a n c) (.slice none 0 0)).run Tryz.prog w = .ok (.bool a.isNone) w := by
 cases a <;> kernel_rfl
set_option maxRecDepth 20000 in
set_option maxHeartbeats 1600000 in
theorem cloneS_c {w : World} {a : Option Addr} {l : List Sg} {c : Nat} (hl : SlAt sgc 64 w a l) (hlen : l.length ≤ 1000000) : Calls Tryz.prog 81 #[.slice a l.length c] w fun e w' => ∃ v, e = .returned v ∧ SlOwn sgc 64 134 w' w.heap.size v l ∧ Mod (fun _ => False) w w' := by
 have he := eqNilS
 cases a with
 | none =>
  obtain rfl : l = [] := by
   rcases hl with h | ⟨_, _, _, _, _, h, _⟩
   ·exact h
   ·cases h
  go_enter Tryz.func81, Tryz.ntmps81
  go_wp2_with fail
  go_ret
  exact ⟨_, rfl, SlOwn.nil _ _, Mod.refl _ _⟩
 | some p =>
  have HL := Lib.hid hl
  have hbs := bsES
  generalize hll : l.length = ll at *
  have HLL := Lib.hid hll
  clear hl hll
  go_enter Tryz.func81, Tryz.ntmps81
  go_upto_region 3 with fail
  refine wp_pass0 (C := fun _ _ _ => False) (κ := fun i => [3, 0, 5, 0].getD i 0) [0, 1, 2, 3] (by kernel_rfl) (by kernel_rfl) (fun _ _ d _ _ h => by cases d <;> first | exact h | exact absurd h (hP _ _ _)) ?_
  (refine TD.bslice (by simp only [zK]; rfl) rfl (by rfl) rfl rfl ?hx11 hbs (fun p5 hp5 => ?n11); (case hx11 => (simp only [List.map_toArray, List.map_cons, List.map_nil, Act.eval, zM]; (try rfl))); try simp only [Act.put, zL])
  (refine TD.val0 (v := ?v12) (by simp only [zK]; rfl) rfl (by rfl) (fun w1 => ?y12) ?n12; (case y12 => go_simp; try with_reducible rfl); try simp only [Act.put, zL])
  refine TD.eff (by simp only [zK]; rfl) rfl (fun w1 hr => ?_)
  have kp5 := hr.box p5 _ (by first | exact Bx.set_same _ _ _ | (simp only [Bx.set_same]; rfl)); dsimp only [Value.cells] at kp5; obtain ⟨gp5, kp5⟩ := kp5
  have m1 := hr.mod
  clear hr
  obtain ⟨v3, w6, hap, hO6, m6, hn6⟩ := SlOwn.append sgT (c := c) (own_e (f := sgc) (n := 64) gp5 kp5) (HL.out.mod0 m1) (by simp; have := HLL.out; omega) (by decide) m1.size 41
  have mF : Mod (fun _ => False) w w6 := m1.then m6 (fun i hi e => by
   have e2 : p5 = i := Option.some.inj e
   omega)
  rw [HLL.out] at hap
  have HO := Lib.hid hO6
  clear hn6 m6 hO6
  (refine eff_append (by simp only [zK]; rfl) (by rfl) rfl ?hx14 ?hz14 hap ?n14; (case hx14 => simp only [Act.eval, zM]; try rfl); (case hz14 => simp only [Act.eval, zM]; try rfl); try simp only [Act.put, zL])
  (refine TE.val0 (v := ?v15) (by simp only [zK]; rfl) (by rfl) (fun w1 => ?y15) ?n15; (case y15 => go_simp; try with_reducible rfl); try simp only [Act.put, zL])
  refine TE.nil ?_
  go_wp2_with fail
  go_ret
  exact ⟨_, rfl, HO.out, mF⟩
set_option maxRecDepth 20000 in
theorem clipS_c (v2 : Value) (w : World) (n : Nat) {a : Option Addr} {c : Nat} (h : ∀ w2, (Instr.sliceAt 41 (.slice a n c) none (some (.int .i64 (n : Int))) (some (.int .i64 (n : Int)))).run Tryz.prog w2 = .ok v2 w2) :
  Calls Tryz.prog 80 #[.slice a n c] w fun e w' => e = .returned v2 ∧ w' = w := by
 go_enter Tryz.func80, Tryz.ntmps80
 go_wp2_with fail
 go_ret
 exact ⟨rfl, rfl⟩
set_option maxRecDepth 20000 in
set_option maxHeartbeats 1600000 in
theorem ownS_c {w : World} {a : Option Addr} {l : List Sg} {c : Nat} (hl : SlAt sgc 64 w a l) (hlen : l.length ≤ 1000000) : Calls Tryz.prog 62 #[.slice a l.length c] w fun e w' => ∃ v, e = .returned v ∧ NewS sgc 64 134 w.heap.size w' v l ∧ Mod (fun _ => False) w w' := by
 have HC := Lib.hid (fun (_ : True) => cloneS_c (c := c) hl hlen)
 generalize hll : l.length = ll at *
 have HLL := Lib.hid hll
 clear hl hlen hll
 go_enter Tryz.func62, Tryz.ntmps62
 go_wp2_with fail
 go_at_call 81
 refine (HC.out trivial).mono ?_
 rintro e w1 ⟨v, rfl, hO, m1⟩
 obtain ⟨a2, c2, v2, rfl, hcl, hN⟩ := hO.clip sgT
 have HN := Lib.hid hN
 rw [HLL.out] at hcl
 have HCL := Lib.hid hcl
 rw [HLL.out]
 clear hO hN hcl
 go_wp2_with fail
 go_at_call 80
 refine (clipS_c v2 _ ll HCL.out).mono ?_
 rintro e w2 ⟨rfl, rfl⟩
 go_wp2_with fail
 go_ret
 exact ⟨_, rfl, HN.out, m1⟩
theorem bsEK (w : World) : (Instr.buildSlice 44 0 #[]).run Tryz.prog w = .ok (.slice (some ⟨w.heap.size, 0, none⟩) 0 0) (w.alloc (.cells #[] 89)) := by kernel_rfl
theorem eqNilK (w : World) (a : Option Addr) (n c : Nat) : (binOp .eql 44 (.slice a n c) (.slice none 0 0)).run Tryz.prog w = .ok (.bool a.isNone) w := by
 cases a <;> kernel_rfl
set_option maxRecDepth 20000 in
set_option maxHeartbeats 1600000 in
theorem cloneK_c {w : World} {a : Option Addr} {l : List Key} {c : Nat} (hl : SlAt kc 32 w a l) (hlen : l.length ≤ 1000000) : Calls Tryz.prog 83 #[.slice a l.length c] w fun e w' => ∃ v, e = .returned v ∧ SlOwn kc 32 89 w' w.heap.size v l ∧ Mod (fun _ => False) w w' := by
 have he := eqNilK
 cases a with
 | none =>
  obtain rfl : l = [] := by
   rcases hl with h | ⟨_, _, _, _, _, h, _⟩
   ·exact h
   ·cases h
  go_enter Tryz.func83, Tryz.ntmps83
  go_wp2_with fail
  go_ret
  exact ⟨_, rfl, SlOwn.nil _ _, Mod.refl _ _⟩
 | some p =>
  have HL := Lib.hid hl
  have hbs := bsEK
  generalize hll : l.length = ll at *
  have HLL := Lib.hid hll
  clear hl hll
  go_enter Tryz.func83, Tryz.ntmps83
  go_upto_region 3 with fail
  refine wp_pass0 (C := fun _ _ _ => False) (κ := fun i => [3, 0, 5, 0].getD i 0) [0, 1, 2, 3] (by kernel_rfl) (by kernel_rfl) (fun _ _ d _ _ h => by cases d <;> first | exact h | exact absurd h (hP _ _ _)) ?_
  (refine TD.bslice (by simp only [zK]; rfl) rfl (by rfl) rfl rfl ?hx16 hbs (fun p5 hp5 => ?n16); (case hx16 => (simp only [List.map_toArray, List.map_cons, List.map_nil, Act.eval, zM]; (try rfl))); try simp only [Act.put, zL])
  (refine TD.val0 (v := ?v17) (by simp only [zK]; rfl) rfl (by rfl) (fun w1 => ?y17) ?n17; (case y17 => go_simp; try with_reducible rfl); try simp only [Act.put, zL])
  refine TD.eff (by simp only [zK]; rfl) rfl (fun w1 hr => ?_)
  have kp5 := hr.box p5 _ (by first | exact Bx.set_same _ _ _ | (simp only [Bx.set_same]; rfl)); dsimp only [Value.cells] at kp5; obtain ⟨gp5, kp5⟩ := kp5
  have m1 := hr.mod
  clear hr
  obtain ⟨v3, w6, hap, hO6, m6, hn6⟩ := SlOwn.append keysT (c := c) (own_e (f := kc) (n := 32) gp5 kp5) (HL.out.mod0 m1) (by simp; have := HLL.out; omega) (by decide) m1.size 44
  have mF : Mod (fun _ => False) w w6 := m1.then m6 (fun i hi e => by
   have e2 : p5 = i := Option.some.inj e
   omega)
  rw [HLL.out] at hap
  have HO := Lib.hid hO6
  clear hn6 m6 hO6
  (refine eff_append (by simp only [zK]; rfl) (by rfl) rfl ?hx19 ?hz19 hap ?n19; (case hx19 => simp only [Act.eval, zM]; try rfl); (case hz19 => simp only [Act.eval, zM]; try rfl); try simp only [Act.put, zL])
  (refine TE.val0 (v := ?v20) (by simp only [zK]; rfl) (by rfl) (fun w1 => ?y20) ?n20; (case y20 => go_simp; try with_reducible rfl); try simp only [Act.put, zL])
  refine TE.nil ?_
  go_wp2_with fail
  go_ret
  exact ⟨_, rfl, HO.out, mF⟩
set_option maxRecDepth 20000 in
theorem clipK_c (v2 : Value) (w : World) (n : Nat) {a : Option Addr} {c : Nat} (h : ∀ w2, (Instr.sliceAt 44 (.slice a n c) none (some (.int .i64 (n : Int))) (some (.int .i64 (n : Int)))).run Tryz.prog w2 = .ok v2 w2) :
  Calls Tryz.prog 82 #[.slice a n c] w fun e w' => e = .returned v2 ∧ w' = w := by
 go_enter Tryz.func82, Tryz.ntmps82
 go_wp2_with fail
 go_ret
 exact ⟨rfl, rfl⟩
set_option maxRecDepth 20000 in
set_option maxHeartbeats 1600000 in
theorem ownK_c {w : World} {a : Option Addr} {l : List Key} {c : Nat} (hl : SlAt kc 32 w a l) (hlen : l.length ≤ 1000000) : Calls Tryz.prog 63 #[.slice a l.length c] w fun e w' => ∃ v, e = .returned v ∧ NewS kc 32 89 w.heap.size w' v l ∧ Mod (fun _ => False) w w' := by
 have HC := Lib.hid (fun (_ : True) => cloneK_c (c := c) hl hlen)
 generalize hll : l.length = ll at *
 have HLL := Lib.hid hll
 clear hl hlen hll
 go_enter Tryz.func63, Tryz.ntmps63
 go_wp2_with fail
 go_at_call 83
 refine (HC.out trivial).mono ?_
 rintro e w1 ⟨v, rfl, hO, m1⟩
 obtain ⟨a2, c2, v2, rfl, hcl, hN⟩ := hO.clip keysT
 have HN := Lib.hid hN
 rw [HLL.out] at hcl
 have HCL := Lib.hid hcl
 rw [HLL.out]
 clear hO hN hcl
 go_wp2_with fail
 go_at_call 82
 refine (clipK_c v2 _ ll HCL.out).mono ?_
 rintro e w2 ⟨rfl, rfl⟩
 go_wp2_with fail
 go_ret
 exact ⟨_, rfl, HN.out, m1⟩
theorem bsEI (w : World) : (Instr.buildSlice 47 0 #[]).run Tryz.prog w = .ok (.slice (some ⟨w.heap.size, 0, none⟩) 0 0) (w.alloc (.cells #[] 138)) := by kernel_rfl
theorem eqNilI (w : World) (a : Option Addr) (n c : Nat) : (binOp .eql 47 (.slice a n c) (.slice none 0 0)).run Tryz.prog w = .ok (.bool a.isNone) w := by
 cases a <;> kernel_rfl
set_option maxRecDepth 20000 in
set_option maxHeartbeats 1600000 in
theorem cloneI_c {w : World} {a : Option Addr} {l : List InR} {c : Nat} (hl : SlAt inr 3 w a l) (hlen : l.length ≤ 1000000) : Calls Tryz.prog 85 #[.slice a l.length c] w fun e w' => ∃ v, e = .returned v ∧ SlOwn inr 3 138 w' w.heap.size v l ∧ Mod (fun _ => False) w w' := by
 have he := eqNilI
 cases a with
 | none =>
  obtain rfl : l = [] := by
   rcases hl with h | ⟨_, _, _, _, _, h, _⟩
   ·exact h
   ·cases h
  go_enter Tryz.func85, Tryz.ntmps85
  go_wp2_with fail
  go_ret
  exact ⟨_, rfl, SlOwn.nil _ _, Mod.refl _ _⟩
 | some p =>
  have HL := Lib.hid hl
  have hbs := bsEI
  generalize hll : l.length = ll at *
  have HLL := Lib.hid hll
  clear hl hll
  go_enter Tryz.func85, Tryz.ntmps85
  go_upto_region 3 with fail
  refine wp_pass0 (C := fun _ _ _ => False) (κ := fun i => [3, 0, 5, 0].getD i 0) [0, 1, 2, 3] (by kernel_rfl) (by kernel_rfl) (fun _ _ d _ _ h => by cases d <;> first | exact h | exact absurd h (hP _ _ _)) ?_
  (refine TD.bslice (by simp only [zK]; rfl) rfl (by rfl) rfl rfl ?hx21 hbs (fun p5 hp5 => ?n21); (case hx21 => (simp only [List.map_toArray, List.map_cons, List.map_nil, Act.eval, zM]; (try rfl))); try simp only [Act.put, zL])
  (refine TD.val0 (v := ?v22) (by simp only [zK]; rfl) rfl (by rfl) (fun w1 => ?y22) ?n22; (case y22 => go_simp; try with_reducible rfl); try simp only [Act.put, zL])
  refine TD.eff (by simp only [zK]; rfl) rfl (fun w1 hr => ?_)
  have kp5 := hr.box p5 _ (by first | exact Bx.set_same _ _ _ | (simp only [Bx.set_same]; rfl)); dsimp only [Value.cells] at kp5; obtain ⟨gp5, kp5⟩ := kp5
  have m1 := hr.mod
  clear hr
  obtain ⟨v3, w6, hap, hO6, m6, hn6⟩ := SlOwn.append instrT (c := c) (own_e (f := inr) (n := 3) gp5 kp5) (HL.out.mod0 m1) (by simp; have := HLL.out; omega) (by decide) m1.size 47
  have mF : Mod (fun _ => False) w w6 := m1.then m6 (fun i hi e => by
   have e2 : p5 = i := Option.some.inj e
   omega)
  rw [HLL.out] at hap
  have HO := Lib.hid hO6
  clear hn6 m6 hO6
  (refine eff_append (by simp only [zK]; rfl) (by rfl) rfl ?hx24 ?hz24 hap ?n24; (case hx24 => simp only [Act.eval, zM]; try rfl); (case hz24 => simp only [Act.eval, zM]; try rfl); try simp only [Act.put, zL])
  (refine TE.val0 (v := ?v25) (by simp only [zK]; rfl) (by rfl) (fun w1 => ?y25) ?n25; (case y25 => go_simp; try with_reducible rfl); try simp only [Act.put, zL])
  refine TE.nil ?_
  go_wp2_with fail
  go_ret
  exact ⟨_, rfl, HO.out, mF⟩
set_option maxRecDepth 20000 in
theorem clipI_c (v2 : Value) (w : World) (n : Nat) {a : Option Addr} {c : Nat} (h : ∀ w2, (Instr.sliceAt 47 (.slice a n c) none (some (.int .i64 (n : Int))) (some (.int .i64 (n : Int)))).run Tryz.prog w2 = .ok v2 w2) :
  Calls Tryz.prog 84 #[.slice a n c] w fun e w' => e = .returned v2 ∧ w' = w := by
 go_enter Tryz.func84, Tryz.ntmps84
 go_wp2_with fail
 go_ret
 exact ⟨rfl, rfl⟩
set_option maxRecDepth 20000 in
set_option maxHeartbeats 1600000 in
theorem ownI_c {w : World} {a : Option Addr} {l : List InR} {c : Nat} (hl : SlAt inr 3 w a l) (hlen : l.length ≤ 1000000) : Calls Tryz.prog 64 #[.slice a l.length c] w fun e w' => ∃ v, e = .returned v ∧ NewS inr 3 138 w.heap.size w' v l ∧ Mod (fun _ => False) w w' := by
 have HC := Lib.hid (fun (_ : True) => cloneI_c (c := c) hl hlen)
 generalize hll : l.length = ll at *
 have HLL := Lib.hid hll
 clear hl hlen hll
 go_enter Tryz.func64, Tryz.ntmps64
 go_wp2_with fail
 go_at_call 85
 refine (HC.out trivial).mono ?_
 rintro e w1 ⟨v, rfl, hO, m1⟩
 obtain ⟨a2, c2, v2, rfl, hcl, hN⟩ := hO.clip instrT
 have HN := Lib.hid hN
 rw [HLL.out] at hcl
 have HCL := Lib.hid hcl
 rw [HLL.out]
 clear hO hN hcl
 go_wp2_with fail
 go_at_call 84
 refine (clipI_c v2 _ ll HCL.out).mono ?_
 rintro e w2 ⟨rfl, rfl⟩
 go_wp2_with fail
 go_ret
 exact ⟨_, rfl, HN.out, m1⟩
theorem bsEL (w : World) : (Instr.buildSlice 48 0 #[]).run Tryz.prog w = .ok (.slice (some ⟨w.heap.size, 0, none⟩) 0 0) (w.alloc (.cells #[] 141)) := by kernel_rfl
theorem eqNilL (w : World) (a : Option Addr) (n c : Nat) : (binOp .eql 48 (.slice a n c) (.slice none 0 0)).run Tryz.prog w = .ok (.bool a.isNone) w := by
 cases a <;> kernel_rfl
set_option maxRecDepth 20000 in
set_option maxHeartbeats 1600000 in
theorem cloneL_c {w : World} {a : Option Addr} {l : List LoR} {c : Nat} (hl : SlAt lor 34 w a l) (hlen : l.length ≤ 1000000) : Calls Tryz.prog 87 #[.slice a l.length c] w fun e w' => ∃ v, e = .returned v ∧ SlOwn lor 34 141 w' w.heap.size v l ∧ Mod (fun _ => False) w w' := by
 have he := eqNilL
 cases a with
 | none =>
  obtain rfl : l = [] := by
   rcases hl with h | ⟨_, _, _, _, _, h, _⟩
   ·exact h
   ·cases h
  go_enter Tryz.func87, Tryz.ntmps87
  go_wp2_with fail
  go_ret
  exact ⟨_, rfl, SlOwn.nil _ _, Mod.refl _ _⟩
 | some p =>
  have HL := Lib.hid hl
  have hbs := bsEL
  generalize hll : l.length = ll at *
  have HLL := Lib.hid hll
  clear hl hll
  go_enter Tryz.func87, Tryz.ntmps87
  go_upto_region 3 with fail
  refine wp_pass0 (C := fun _ _ _ => False) (κ := fun i => [3, 0, 5, 0].getD i 0) [0, 1, 2, 3] (by kernel_rfl) (by kernel_rfl) (fun _ _ d _ _ h => by cases d <;> first | exact h | exact absurd h (hP _ _ _)) ?_
  (refine TD.bslice (by simp only [zK]; rfl) rfl (by rfl) rfl rfl ?hx26 hbs (fun p5 hp5 => ?n26); (case hx26 => (simp only [List.map_toArray, List.map_cons, List.map_nil, Act.eval, zM]; (try rfl))); try simp only [Act.put, zL])
  (refine TD.val0 (v := ?v27) (by simp only [zK]; rfl) rfl (by rfl) (fun w1 => ?y27) ?n27; (case y27 => go_simp; try with_reducible rfl); try simp only [Act.put, zL])
  refine TD.eff (by simp only [zK]; rfl) rfl (fun w1 hr => ?_)
  have kp5 := hr.box p5 _ (by first | exact Bx.set_same _ _ _ | (simp only [Bx.set_same]; rfl)); dsimp only [Value.cells] at kp5; obtain ⟨gp5, kp5⟩ := kp5
  have m1 := hr.mod
  clear hr
  obtain ⟨v3, w6, hap, hO6, m6, hn6⟩ := SlOwn.append lookupT (c := c) (own_e (f := lor) (n := 34) gp5 kp5) (HL.out.mod0 m1) (by simp; have := HLL.out; omega) (by decide) m1.size 48
  have mF : Mod (fun _ => False) w w6 := m1.then m6 (fun i hi e => by
   have e2 : p5 = i := Option.some.inj e
   omega)
  rw [HLL.out] at hap
  have HO := Lib.hid hO6
  clear hn6 m6 hO6
  (refine eff_append (by simp only [zK]; rfl) (by rfl) rfl ?hx29 ?hz29 hap ?n29; (case hx29 => simp only [Act.eval, zM]; try rfl); (case hz29 => simp only [Act.eval, zM]; try rfl); try simp only [Act.put, zL])
  (refine TE.val0 (v := ?v30) (by simp only [zK]; rfl) (by rfl) (fun w1 => ?y30) ?n30; (case y30 => go_simp; try with_reducible rfl); try simp only [Act.put, zL])
  refine TE.nil ?_
  go_wp2_with fail
  go_ret
  exact ⟨_, rfl, HO.out, mF⟩
set_option maxRecDepth 20000 in
theorem clipL_c (v2 : Value) (w : World) (n : Nat) {a : Option Addr} {c : Nat} (h : ∀ w2, (Instr.sliceAt 48 (.slice a n c) none (some (.int .i64 (n : Int))) (some (.int .i64 (n : Int)))).run Tryz.prog w2 = .ok v2 w2) :
  Calls Tryz.prog 86 #[.slice a n c] w fun e w' => e = .returned v2 ∧ w' = w := by
 go_enter Tryz.func86, Tryz.ntmps86
 go_wp2_with fail
 go_ret
 exact ⟨rfl, rfl⟩
set_option maxRecDepth 20000 in
set_option maxHeartbeats 1600000 in
theorem ownL_c {w : World} {a : Option Addr} {l : List LoR} {c : Nat} (hl : SlAt lor 34 w a l) (hlen : l.length ≤ 1000000) : Calls Tryz.prog 65 #[.slice a l.length c] w fun e w' => ∃ v, e = .returned v ∧ NewS lor 34 141 w.heap.size w' v l ∧ Mod (fun _ => False) w w' := by
 have HC := Lib.hid (fun (_ : True) => cloneL_c (c := c) hl hlen)
 generalize hll : l.length = ll at *
 have HLL := Lib.hid hll
 clear hl hlen hll
 go_enter Tryz.func65, Tryz.ntmps65
 go_wp2_with fail
 go_at_call 87
 refine (HC.out trivial).mono ?_
 rintro e w1 ⟨v, rfl, hO, m1⟩
 obtain ⟨a2, c2, v2, rfl, hcl, hN⟩ := hO.clip lookupT
 have HN := Lib.hid hN
 rw [HLL.out] at hcl
 have HCL := Lib.hid hcl
 rw [HLL.out]
 clear hO hN hcl
 go_wp2_with fail
 go_at_call 86
 refine (clipL_c v2 _ ll HCL.out).mono ?_
 rintro e w2 ⟨rfl, rfl⟩
 go_wp2_with fail
 go_ret
 exact ⟨_, rfl, HN.out, m1⟩
end Go.Proofs.YtdeghpmlhcaedaaGreatDoor
namespace Go.Proofs.YtdeghpmlhcaedaaGreatDoor
structure InC where
 p : UInt8
 a : List UInt8
 d : List UInt8
structure LoC where
 t : Key
 w : List UInt8
 r : List UInt8
structure RdC where
 b : List UInt8
 sg : List Sg
 v0 : Bool
 h0 : UInt8
 h1 : UInt8
 h2 : UInt8
 ks : List Key
 rc : Key
 ins : List InC
 lks : List LoC
 ro : List Role
 un : UInt64
 pr : UInt64
 bad : Int64
 fee : UInt64
 cost : UInt64
 prio : UInt64
def InR.con (x : InR) : InC := ⟨x.p, x.a.l, x.d.l⟩
def LoR.con (x : LoR) : LoC := ⟨x.t, x.w.l, x.r.l⟩
def RdR.con (x : RdR) : RdC := ⟨x.b.l, x.sg.l, x.v0, x.h0, x.h1, x.h2, x.ks.l, x.rc, x.ins.l.map InR.con, x.lks.l.map LoR.con, x.ro.l, x.un, x.pr, x.bad, x.fee, x.cost, x.prio⟩
structure It where
 n : UInt64
 r : RdC
 pl : Nat
 sent : Bool
def It.rk (x : It) : Rk := ⟨x.r.prio, x.n⟩
def idn (k : Nat) : Int64 := Int64.ofNat k
theorem idn_toInt {k : Nat} (h : k < 9223372036854775808) : (idn k).toInt = k := Int64.toInt_ofNat_of_lt h
theorem idn_inj {j k : Nat} (hj : j < 9223372036854775808) (hk : k < 9223372036854775808) (h : idn j = idn k) : j = k := by
 have := congrArg Int64.toInt h
 rw [idn_toInt hj, idn_toInt hk] at this
 omega
def nodeOf (k : Nat) : Option It → List Nd
 | some x => if x.pl = 0 then [⟨x.rk, idn k⟩] else []
 | none => []
def wtg : Nat → List (Option It) → List Nd
 | _, [] => []
 | k, o :: r => nodeOf k o ++ wtg (k + 1) r
theorem wtg_append : ∀ (A : List (Option It)) (k : Nat) (B : List (Option It)), wtg k (A ++ B) = wtg k A ++ wtg (k + A.length) B
 | [], k, B => rfl
 | o :: A, k, B => by
  show nodeOf k o ++ wtg (k + 1) (A ++ B) = (nodeOf k o ++ wtg (k + 1) A) ++ _
  rw [wtg_append A (k + 1) B, List.append_assoc, List.length_cons, show k + 1 + A.length = k + (A.length + 1) by omega]
theorem nodeOf_mem {k : Nat} {o : Option It} {x : Nd} (h : x ∈ nodeOf k o) : ∃ y, o = some y ∧ y.pl = 0 ∧ x = ⟨y.rk, idn k⟩ := by
 cases o with
 | none => cases h
 | some y =>
  unfold nodeOf at h
  by_cases hp : y.pl = 0
  ·simp only [hp, if_true, List.mem_singleton] at h
   exact ⟨y, rfl, hp, h⟩
  ·simp [hp] at h
theorem wtg_mem : ∀ {S : List (Option It)} {k : Nat} {x : Nd}, x ∈ wtg k S → ∃ i y, S[i]? = some (some y) ∧ y.pl = 0 ∧ x = ⟨y.rk, idn (k + i)⟩
 | [], k, x, h => by cases h
 | o :: S, k, x, h => by
  rcases List.mem_append.1 h with h | h
  ·obtain ⟨y, rfl, h1, h2⟩ := nodeOf_mem h
   exact ⟨0, y, rfl, h1, h2⟩
  ·obtain ⟨i, y, h1, h2, h3⟩ := wtg_mem (S := S) (k := k + 1) h
   exact ⟨i + 1, y, h1, h2, by rw [h3, show k + 1 + i = k + (i + 1) by omega]⟩
theorem mem_wtg : ∀ {S : List (Option It)} {k i : Nat} {y : It}, S[i]? = some (some y) → y.pl = 0 → ⟨y.rk, idn (k + i)⟩ ∈ wtg k S
 | [], k, i, y, h, _ => by simp at h
 | o :: S, k, 0, y, h, hp => by
  simp only [zC, Option.some.injEq] at h
  subst h
  refine List.mem_append_left _ ?_
  simp [nodeOf, hp]
 | o :: S, k, i + 1, y, h, hp => by
  refine List.mem_append_right _ ?_
  have := mem_wtg (S := S) (k := k + 1) (i := i) (by simpa using h) hp
  rwa [show k + 1 + i = k + (i + 1) by omega] at this
theorem set_split {α : Type} {A B : List α} {o p : α} : (A ++ o :: B).set A.length p = A ++ p :: B := by
 rw [List.set_append_right _ _ (Nat.le_refl _), Nat.sub_self]
 rfl
theorem wtg_ids : ∀ {S : List (Option It)} {k : Nat}, k + S.length < 9223372036854775808 → ((wtg k S).map Nd.id).Nodup
 | [], k, _ => List.nodup_nil
 | o :: S, k, h => by
  rw [List.length_cons] at h
  have ih := wtg_ids (S := S) (k := k + 1) (by omega)
  show ((nodeOf k o ++ wtg (k + 1) S).map Nd.id).Nodup
  rw [List.map_append, List.nodup_append]
  refine ⟨?_, ih, ?_⟩
  ·cases o with
   | none => exact List.nodup_nil
   | some x =>
    by_cases hp : x.pl = 0 <;> simp [nodeOf, hp]
  ·rintro a ha b hb rfl
   obtain ⟨x, hx, rfl⟩ := List.mem_map.1 ha
   obtain ⟨z, hz, e⟩ := List.mem_map.1 hb
   obtain ⟨y, _, _, rfl⟩ := nodeOf_mem hx
   obtain ⟨i, u, hu, _, rfl⟩ := wtg_mem hz
   have hi : i < S.length := (List.getElem?_eq_some_iff.1 hu).1
   have := idn_inj (by omega) (by omega) e
   omega
theorem wtg_len {S : List (Option It)} {k : Nat} : (wtg k S).length ≤ S.length := by
 induction S generalizing k with
 | nil => exact Nat.le_refl _
 | cons o S ih =>
  show (nodeOf k o ++ wtg (k + 1) S).length ≤ _
  rw [List.length_append, List.length_cons]
  have h := ih (k := k + 1)
  have : (nodeOf k o).length ≤ 1 := by
   unfold nodeOf
   split
   ·split <;> simp
   ·simp
  omega
def wtgo (i : Nat) (S : List (Option It)) : List Nd := wtg 0 (S.take i) ++ wtg (i + 1) (S.drop (i + 1))
theorem wtg_at {S : List (Option It)} {i : Nat} {o : Option It} (h : S[i]? = some o) : (wtg 0 S).Perm (nodeOf i o ++ wtgo i S) := by
 have hi : i < S.length := (List.getElem?_eq_some_iff.1 h).1
 have e : S = S.take i ++ o :: S.drop (i + 1) := by
  obtain ⟨_, rfl⟩ := List.getElem?_eq_some_iff.1 h
  rw [List.getElem_cons_drop, List.take_append_drop]
 have hl : (S.take i).length = i := by rw [List.length_take]; omega
 have e2 : wtg 0 S = wtg 0 (S.take i) ++ (nodeOf i o ++ wtg (i + 1) (S.drop (i + 1))) := by
  conv => lhs; rw [e]
  rw [wtg_append, hl, Nat.zero_add]
  rfl
 rw [e2]
 unfold wtgo
 rw [← List.append_assoc, ← List.append_assoc]
 exact List.perm_append_comm.append_right _
theorem wtgo_set {S : List (Option It)} {i : Nat} {o : Option It} : wtgo i (S.set i o) = wtgo i S := by
 unfold wtgo
 rw [List.take_set_of_le (Nat.le_refl _), List.drop_set_of_lt (by omega)]
theorem wtg_set {S : List (Option It)} {i : Nat} {o : Option It} (hi : i < S.length) : (wtg 0 (S.set i o)).Perm (nodeOf i o ++ wtgo i S) := by
 rw [← wtgo_set (o := o)]
 exact wtg_at (by rw [List.getElem?_set_self hi])
theorem wtgo_id {S : List (Option It)} {i : Nat} (hS : S.length < 4611686018427387904) {x : Nd} (hx : x ∈ wtgo i S) (hi : i < S.length) : x.id ≠ idn i := by
 intro e
 rcases List.mem_append.1 hx with h | h
 ·obtain ⟨j, y, h1, _, rfl⟩ := wtg_mem h
  have hj := (List.getElem?_eq_some_iff.1 h1).1
  rw [List.length_take] at hj
  have := idn_inj (by omega) (by omega) e
  omega
 ·obtain ⟨j, y, h1, _, rfl⟩ := wtg_mem h
  have hj := (List.getElem?_eq_some_iff.1 h1).1
  rw [List.length_drop] at hj
  have := idn_inj (by omega) (by omega) e
  omega
theorem drop_perm {C : List Nd} {S : List (Option It)} {i : Nat} {x : It} (hS : S.length < 4611686018427387904) (hC : C.Perm (wtg 0 S)) (hx : S[i]? = some (some x)) (hp : x.pl = 0) :
  (C.eraseP (fun y => y.id == idn i)).Perm (wtgo i S) := by
 have hi := (List.getElem?_eq_some_iff.1 hx).1
 have h1 := hC.trans (wtg_at hx)
 have hn : nodeOf i (some x) = [⟨x.rk, idn i⟩] := by simp [nodeOf, hp]
 rw [hn] at h1
 have hnd : (C.map Nd.id).Nodup := (hC.map Nd.id).nodup_iff.2 (wtg_ids (by omega))
 have h2 := List.Perm.eraseP (fun y : Nd => y.id == idn i) (by
  rw [List.nodup_iff_pairwise_ne, List.pairwise_map] at hnd
  exact hnd.imp (fun {a b} hab ha hb => hab ((beq_iff_eq.1 ha).trans (beq_iff_eq.1 hb).symm))) h1
 rw [List.singleton_append, List.eraseP_cons_of_pos (by simp)] at h2
 exact h2
theorem node_mem {C : List Nd} {S : List (Option It)} {i : Nat} {x : It} (hC : C.Perm (wtg 0 S)) (hx : S[i]? = some (some x)) (hp : x.pl = 0) : (⟨x.rk, idn i⟩ : Nd) ∈ C := by
 have := mem_wtg (k := 0) hx hp
 rw [Nat.zero_add] at this
 exact hC.mem_iff.2 this
theorem node_none {C : List Nd} {S : List (Option It)} {i : Nat} {o : Option It} (hS : S.length < 4611686018427387904) (hC : C.Perm (wtg 0 S)) (ho : S[i]? = some o) (hn : nodeOf i o = []) : (∀ x ∈ C, x.id ≠ idn i) ∧ C.Perm (wtgo i S) := by
 have h1 := hC.trans (wtg_at ho)
 rw [hn, List.nil_append] at h1
 exact ⟨fun x hx => wtgo_id hS (h1.mem_iff.1 hx) (List.getElem?_eq_some_iff.1 ho).1, h1⟩
theorem push_perm {C : List Nd} {S : List (Option It)} {i : Nat} {x : It} (hC : C.Perm (wtgo i S)) (hi : i < S.length) (hp : x.pl = 0) : (C ++ [(⟨x.rk, idn i⟩ : Nd)]).Perm (wtg 0 (S.set i (some x))) := by
 refine List.Perm.trans ?_ (wtg_set hi).symm
 have hn : nodeOf i (some x) = [⟨x.rk, idn i⟩] := by simp [nodeOf, hp]
 rw [hn]
 exact (hC.append_right _).trans List.perm_append_comm
theorem keep_perm {C : List Nd} {S : List (Option It)} {i : Nat} {o : Option It} (hC : C.Perm (wtgo i S)) (hi : i < S.length) (hn : nodeOf i o = []) : C.Perm (wtg 0 (S.set i o)) := by
 refine List.Perm.trans ?_ (wtg_set hi).symm
 rw [hn]
 exact hC
end Go.Proofs.YtdeghpmlhcaedaaGreatDoor
namespace Go.Proofs.YtdeghpmlhcaedaaGreatDoor
open Go.RowKit
open Go.ChangeMaps (setBlock)
theorem wr_get (vs : List Value) (cs : Array Value) (o : Nat) (h : o + vs.length ≤ cs.size) (t : Nat) : (wr cs o vs)[t]? = if o ≤ t ∧ t < o + vs.length then vs[t - o]? else cs[t]? := by
 rw [← Array.getElem?_toList, wr_list vs cs o h]
 have hl : cs.toList.length = cs.size := Array.length_toList
 by_cases h1 : t < o
 ·rw [if_neg (by omega), List.append_assoc, List.getElem?_append_left (by rw [List.length_take]; omega), List.getElem?_take, if_pos h1, Array.getElem?_toList]
 ·by_cases h2 : t < o + vs.length
  ·rw [if_pos ⟨by omega, h2⟩, List.append_assoc, List.getElem?_append_right (by rw [List.length_take]; omega), List.length_take, Nat.min_eq_left (by omega), List.getElem?_append_left (by omega)]
  ·rw [if_neg (by omega), List.getElem?_append_right (by rw [List.length_append, List.length_take]; omega), List.length_append, List.length_take, Nat.min_eq_left (by omega), List.getElem?_drop, Array.getElem?_toList]
   congr 1
   omega
theorem ite_wr {xs cs : Array Value} {o n : Nat} (h : xs.size = n) : (if o = 0 ∧ n = cs.size then xs else wr cs o xs.toList) = wr cs o xs.toList := by
 split
 ·rename_i hh
  obtain ⟨rfl, h2⟩ := hh
  rw [wr_whole _ _ (by omega)]
 ·rfl
end Go.Proofs.YtdeghpmlhcaedaaGreatDoor
namespace Go.Proofs.YtdeghpmlhcaedaaGreatDoor
section
variable {P : Program} {ops : Array Oper} {Q : Exit → Act → World → Prop} {T0 : Nat → Prop} {w0 : World} {κ : Nat → Nat} {υ : Nat → List Tmp}
def kinds6 (kx ko : Nat) : Bool := kx == 0 && (ko == 0 || ko == 6)
def pair6 (ops : Array Oper) (κ : Nat → Nat) (x o : Nat) : Bool :=
 (!(x == o) && (behindB ops x).testBit o) || match ops[x]?, ops[o]? with
  | some ox, some oo => ox.apart ops oo && kinds6 (κ x) (κ o)
  | _, _ => false
def pairs6 (ops : Array Oper) (κ : Nat → Nat) : List Nat → Bool
 | [] => true
 | x :: r => r.all (fun o => pair6 ops κ x o) && pairs6 ops κ r
theorem pairs6_split {κ : Nat → Nat} {i : Nat} {post : List Nat} : ∀ {pre : List Nat}, pairs6 ops κ (pre ++ i :: post) = true → (∀ x ∈ pre, pair6 ops κ x i = true) ∧ pairs6 ops κ (pre ++ post) = true
 | [], h => by
  simp only [List.nil_append, pairs6, Bool.and_eq_true] at h
  exact ⟨fun _ hx => (List.not_mem_nil hx).elim, h.2⟩
 | x :: pre, h => by
  simp only [List.cons_append, pairs6, Bool.and_eq_true, List.all_eq_true] at h
  obtain ⟨h1, h2⟩ := pairs6_split h.2
  refine ⟨fun y hy => ?_, ?_⟩
  ·rcases List.mem_cons.1 hy with rfl | hy
   ·exact h.1 i (by simp)
   ·exact h1 y hy
  ·simp only [List.cons_append, pairs6, Bool.and_eq_true, List.all_eq_true]
   refine ⟨fun y hy => h.1 y ?_, h2⟩
   rcases List.mem_append.1 hy with hy | hy
   ·exact List.mem_append_left _ hy
   ·exact List.mem_append_right _ (List.mem_cons_of_mem _ hy)
theorem TE.front6 (hsel : ∀ (j : Nat) (p : Oper) cs b, ops[j]? = some p → p.op ≠ .select cs b) (hQ : ∀ c a d v w, Q (.panic c) (Act.put a d v) w → Q (.panic c) a w)
  {o : Nat} {oo : Oper} (ho : ops[o]? = some oo) {post : List Nat} {w : World} : ∀ (pre : List Nat) (a : Act),
   (∀ x ∈ pre, ∃ ox, ops[x]? = some ox ∧ ox.apart ops oo = true ∧ kinds6 (κ x) (κ o) = true) →
   TE P ops Q κ (pre ++ o :: post) a w → TE P ops Q κ (o :: (pre ++ post)) a w
 | [], _, _, h => h
 | x :: pre, a, hp, h => by
  obtain ⟨ox, hx, hap, hk⟩ := hp x (by simp)
  have kx0 : κ x = 0 := by
   simp only [kinds6, Bool.and_eq_true, beq_iff_eq] at hk
   exact hk.1
  obtain ⟨h1, h2, h3⟩ := Oper.apart_spec hap
  have hp' : ∀ y ∈ pre, ∃ oy, ops[y]? = some oy ∧ oy.apart ops oo = true ∧ kinds6 (κ y) (κ o) = true := fun y hy => hp y (List.mem_cons_of_mem _ hy)
  cases h with
  | eff R _ hk => omega
  | val hx' hy ht =>
   rw [hx] at hx'; cases hx'
   rename_i v
   have hf := TE.front6 hsel hQ ho pre _ hp' ht
   cases hf with
   | eff R ho' hk' hR hT =>
    exact .eff _ ho hk' (wpOp_putIf ho hap (fun cs b => hsel x ox cs b hx) (fun cs b => hsel o oo cs b ho) (fun c a w => hQ c a _ _ w) hy hR) (fun a' w' hh => .val hx hh.1 (hT _ _ hh.2))
   | val ho' hy2 ht2 =>
    rw [ho] at ho'; cases ho'
    rename_i u
    have eo := execOp_put (ops := ops) oo (fun cs b => hsel o oo cs b ho) a ox.dst v h1
    have wo := wanted_put (ops := ops) oo a ox.dst v h1
    have ex := execOp_put (ops := ops) ox (fun cs b => hsel x ox cs b hx) a oo.dst u h3
    have wx := wanted_put (ops := ops) ox a oo.dst u h3
    refine .val ho (hy2.of_same eo.symm wo.symm) (.val hx (hy.of_same ex wx) ?_)
    rw [← Act.put_comm a v u h2]
    exact ht2
theorem TE.sound6 (hQ : ∀ c a d v w, Q (.panic c) (Act.put a d v) w → Q (.panic c) a w) (hsel : ∀ (j : Nat) (p : Oper) cs b, ops[j]? = some p → p.op ≠ .select cs b)
  (hback : ∀ i o, ops[i]? = some o → ∀ e ∈ o.after, Region.binds .any e = true → e.on < i) :
  ∀ (fuel : Nat) (l : List Nat) (listed : Array Bool) (a : Act) (w : World), l.length = fuel → l.Nodup → (∀ i ∈ l, i < ops.size) → pairs6 ops κ l = true → Listing ops listed l → TE P ops Q κ l a w → wpAny P .any ops Q fuel listed a w := by
 intro fuel
 induction fuel with
 | zero =>
  intro l listed a w hl hn hlt hp hL h
  obtain rfl : l = [] := List.length_eq_zero_iff.1 hl
  refine ⟨?_, ?_⟩
  ·rw [List.eq_nil_iff_forall_not_mem]
   intro i hi
   have := (hL.mem i).2 (mem_ready.1 hi).1
   cases this
  ·cases h with | nil h => exact h
 | succ fuel ih =>
  intro l listed a w hl hn hlt hp hL h
  refine ⟨fun hnil => ?_, fun i hi => ?_⟩
  ·exfalso
   match l, hl with
   | i :: l', _ => exact exists_ready hback hL hlt i i (by simp) (Nat.le_refl _) hnil
  ·obtain ⟨hun, o, ho, hall⟩ := mem_ready.1 hi
   obtain ⟨pre, post, rfl⟩ := List.append_of_mem ((hL.mem i).2 hun)
   obtain ⟨h1, h2⟩ := pairs6_split hp
   have hf := TE.front6 hsel hQ ho pre a (fun x hx => by
    have := h1 x hx
    unfold pair6 at this
    have hxo : ops[x]? = some (ops[x]'(hlt x (by simp [hx]))) := Array.getElem?_eq_getElem _
    rw [hxo, ho] at this
    simp only [Bool.or_eq_true, Bool.and_eq_true] at this
    rcases this with hpth | hok
    ·obtain ⟨_, hpth⟩ := (behindB_path hpth.2).resolve_left (fun e => by have := hpth.1; simp [e] at this)
     have hl1 := path_listed hL.closed _ x i o ho hall hpth
     have hl2 := getD_false_of_true ((hL.mem x).1 (by simp [hx]))
     rw [hl1] at hl2
     cases hl2
    ·exact ⟨_, hxo, hok.1, hok.2⟩) h
   have hl' : (pre ++ post).length = fuel := by simp at hl ⊢; omega
   have hn' : (pre ++ post).Nodup := hn.sublist (List.Sublist.append_left (List.sublist_cons_self _ _) _)
   have hlt' : ∀ j ∈ pre ++ post, j < ops.size := fun j hj => hlt j (by
    rcases List.mem_append.1 hj with hj | hj
    ·exact List.mem_append_left _ hj
    ·exact List.mem_append_right _ (List.mem_cons_of_mem _ hj))
   cases hf with
   | val ho' hy ht =>
    rw [ho] at ho'
    cases ho'
    exact YieldsIf.wpOp ho hy trivial (ih (pre ++ post) _ _ _ hl' hn' hlt' h2 (hL.next hn ho hall) ht)
   | eff R ho' hk hR hT => exact wpOp_mono (fun a' w' hh => ih (pre ++ post) _ _ _ hl' hn' hlt' h2 (hL.next hn ho hall) (hT a' w' hh)) hR
theorem TG.soundE6 (hQ : ∀ c a d v w, Q (.panic c) (Act.put a d v) w → Q (.panic c) a w) (hsel : ∀ (j : Nat) (p : Oper) cs b, ops[j]? = some p → p.op ≠ .select cs b)
  (hback : ∀ i o, ops[i]? = some o → ∀ e ∈ o.after, Region.binds .any e = true → e.on < i) {rest : List Nat} (hrest : pairs6 ops κ rest = true) :
  ∀ (fuel : Nat) (l : List Nat) (listed : Array Bool) (a : Act) (B : Bx) (K : Land) (w : World), l.length = fuel → (l ++ rest).Nodup → (∀ i ∈ l ++ rest, i < ops.size) → gPairsOk ops κ υ l = true →
   (∀ x ∈ l, ∀ y ∈ rest, x ≠ y ∧ (behindB ops x).testBit y = true) → Listing ops listed (l ++ rest) → Closed K →
   RG T0 w0 B K w → TG P ops (fun _ a w => TE P ops Q κ rest a w) T0 w0 κ υ l a B K → wpAny P .any ops Q (rest.length + fuel) listed a w := by
 intro fuel
 induction fuel with
 | zero =>
  intro l listed a B K w hl hn hlt hp hb hL hK hR h
  obtain rfl : l = [] := List.length_eq_zero_iff.1 hl
  have hte : TE P ops Q κ rest a w := by
   cases h with | nil h => exact h w hR
  exact TE.sound6 hQ hsel hback _ rest listed a w rfl (by simpa using hn) (by simpa using hlt) hrest (by simpa using hL) hte
 | succ fuel ih =>
  intro l listed a B K w hl hn hlt hp hb hL hK hR h
  refine ⟨fun hnil => ?_, fun i hi => ?_⟩
  ·exfalso
   match l, hl with
   | i :: l', _ => exact exists_ready hback hL hlt i i (by simp) (Nat.le_refl _) hnil
  ·obtain ⟨hun, o, ho, hall⟩ := mem_ready.1 hi
   have hil : i ∈ l := by
    rcases List.mem_append.1 ((hL.mem i).2 hun) with hin | hin
    ·exact hin
    ·exfalso
     clear h
     match l, hl with
     | x :: l', _ =>
      have hxy := hb x (by simp) i hin
      obtain ⟨_, hpth⟩ := (behindB_path hxy.2).resolve_left (fun e => hxy.1 e.symm)
      have hl1 := path_listed hL.closed _ x i o ho hall hpth
      have hl2 := getD_false_of_true ((hL.mem x).1 (by simp))
      rw [hl1] at hl2
      cases hl2
   obtain ⟨pre, post, rfl⟩ := List.append_of_mem hil
   obtain ⟨h1, h2⟩ := gPairsOk_split hp
   have hf := TG.front hsel ho pre a B K hK ⟨w, hR⟩ (fun x hx => by
    have := h1 x hx
    unfold gPairOk at this
    have hxo : ops[x]? = some (ops[x]'(hlt x (by simp [hx]))) := Array.getElem?_eq_getElem _
    rw [hxo, ho] at this
    simp only [Bool.or_eq_true, Bool.and_eq_true] at this
    rcases this with hpth | hok
    ·obtain ⟨_, hpth⟩ := (behindB_path hpth.2).resolve_left (fun e => by have := hpth.1; simp [e] at this)
     have hl1 := path_listed hL.closed _ x i o ho hall hpth
     have hl2 := getD_false_of_true ((hL.mem x).1 (by simp [hx]))
     rw [hl1] at hl2
     cases hl2
    ·exact ⟨_, hxo, hok.1, hok.2⟩) h
   have hl' : (pre ++ post).length = fuel := by simp at hl ⊢; omega
   have hsub : ((pre ++ post) ++ rest).Sublist ((pre ++ i :: post) ++ rest) := List.Sublist.append_right (List.Sublist.append_left (List.sublist_cons_self _ _) _) _
   have hn' : ((pre ++ post) ++ rest).Nodup := hn.sublist hsub
   have hlt' : ∀ j ∈ (pre ++ post) ++ rest, j < ops.size := fun j hj => hlt j (hsub.subset hj)
   have hb' : ∀ x ∈ pre ++ post, ∀ y ∈ rest, x ≠ y ∧ (behindB ops x).testBit y = true := fun x hx => hb x ((List.Sublist.append_left (List.sublist_cons_self i post) pre).subset hx)
   have hL' : Listing ops (listed.setIfInBounds i true) ((pre ++ post) ++ rest) := by
    have := Listing.next (pre := pre) (post := post ++ rest) (i := i) (by simpa using hL) (by simpa using hn) ho hall
    simpa using this
   rcases hf.kinds with ko | ko | ko | ko
   ·obtain ⟨v, hy, ht⟩ := hf.inv_val ko ho
    obtain ⟨T, hRT⟩ := hR
    exact YieldsIf.wpOp ho hy hRT.mod (ih _ _ _ _ _ _ hl' hn' hlt' h2 hb' hL' hK ⟨T, hRT⟩ ht)
   ·obtain ⟨hw, d, T, z, V, hd, hr, ht⟩ := hf.inv_alloc ko ho
    obtain ⟨U, hRT⟩ := hR
    have hR' : RG T0 w0 (B.set w.heap.size ⟨z, T, d⟩) K (w.alloc (.cells z T)) := ⟨U, hRT.alloc hK z T d⟩
    unfold wpOp
    simp only [ho, hw, if_true]
    refine .inl ?_
    unfold Oper.wp
    rw [hr w]
    exact ih _ _ _ _ _ _ hl' hn' hlt' h2 hb' hL' hK hR' (ht _ hRT.none ⟨_, hR'⟩)
   ·obtain ⟨hw, hd, d, T, y, p, b, hop, hev, hbb, htag, hr, ht⟩ := hf.inv_store ko ho
    obtain ⟨U, hRT⟩ := hR
    unfold wpOp
    simp only [ho, hw, if_true]
    refine .inl ?_
    unfold Oper.wp
    rw [hr w (hRT.box p b hbb).2.2]
    simp only [Oper.upon, hd]
    exact ih _ _ _ _ _ _ hl' hn' hlt' h2 hb' hL' hK ⟨U, hRT.store hK hbb _⟩ ht
   ·obtain ⟨hw, K', hE, ht⟩ := hf.inv_eff ko ho
    obtain ⟨U, hRT⟩ := hR
    exact (hE.step hRT).wp ho hw fun v w' hv => ih _ _ _ _ _ _ hl' hn' hlt' h2 hb' hL' (hE.cl v) hv (ht v ⟨w', hv⟩)
def eReg6 (ops : Array Oper) (κ : Nat → Nat) (υ : Nat → List Tmp) (l rest : List Nat) : Bool :=
 Region.noSelect ops && ((List.range ops.size).all fun i => match ops[i]? with | none => false | some o => o.after.all fun e => !Region.binds .any e || decide (e.on < i)) &&
 (decide (rest.length + l.length = ops.size) && ((l ++ rest).all (fun i => decide (i < ops.size)) && ((List.range ops.size).all fun i => (l ++ rest).contains i))) &&
 (decide (l ++ rest).Nodup && gPairsOk ops κ υ l && pairs6 ops κ rest && l.all (fun x => rest.all fun y => !(x == y) && (behindB ops x).testBit y))
def firstOk (ops : Array Oper) (listed : Array Bool) (i : Nat) : Bool :=
 Region.noSelect ops && (Region.ready .any ops listed).contains i && match ops[i]? with
  | none => false
  | some oi => (List.range ops.size).all fun j => match ops[j]? with
   | none => true
   | some oj => decide (j = i) || listed.getD j true || oj.after.any (fun e => Region.binds .any e && decide (e.on = i)) || oi.apart ops oj
theorem take_first {fuel : Nat} {listed : Array Bool} {a : Act} {w : World} {i : Nat} {oi : Oper} {v : Value} (hi : ops[i]? = some oi) (hok : firstOk ops listed i = true) (hQ : ∀ c a d v w, Q (.panic c) (Act.put a d v) w → Q (.panic c) a w)
  (hw : Region.wanted oi (yielded ops a.tmps) = true) (hy : ∀ w, (execOp a.eval oi).run P w = .ok (.value v) w) (h : wpAny P .any ops Q fuel (listed.setIfInBounds i true) (a.put oi.dst v) w) : wpAny P .any ops Q (fuel + 1) listed a w := by
 simp only [firstOk, hi, Bool.and_eq_true] at hok
 obtain ⟨⟨h1, h2⟩, h3⟩ := hok
 refine wpAny_first hi (Region.noSelect_spec h1) (fun c a w => hQ c a _ _ w) fuel listed a w (fun j oj hj hne hl hb => ?_) (List.contains_iff_mem.1 h2) (.inl ⟨hw, hy⟩) h
 have hjs : j < ops.size := (Array.getElem?_eq_some_iff.1 hj).1
 have := List.all_eq_true.1 h3 j (List.mem_range.2 hjs)
 rw [hj] at this
 simp only [Bool.or_eq_true, decide_eq_true_eq] at this
 rcases this with ((h | h) | h) | h
 ·exact absurd h hne
 ·rw [h] at hl; cases hl
 ·obtain ⟨e, he, hb2⟩ := Array.any_eq_true'.1 h
  simp only [Bool.and_eq_true, decide_eq_true_eq] at hb2
  exact absurd hb2.2 (hb e he hb2.1)
 ·exact h
def eRegL (ops : Array Oper) (κ : Nat → Nat) (υ : Nat → List Tmp) (listed : Array Bool) (l rest : List Nat) : Bool :=
 Region.noSelect ops && ((List.range ops.size).all fun i => match ops[i]? with | none => false | some o => o.after.all fun e => !Region.binds .any e || decide (e.on < i)) &&
 (decide (listed.size = ops.size) && ((l ++ rest).all (fun i => decide (i < ops.size)) && ((List.range ops.size).all fun i => (l ++ rest).contains i == !listed.getD i true))) &&
 ((List.range ops.size).all fun i => !listed.getD i false || match ops[i]? with | none => true | some o => o.after.all fun e => !Region.binds .any e || listed.getD e.on false) &&
 (decide (l ++ rest).Nodup && gPairsOk ops κ υ l && pairs6 ops κ rest && l.all (fun x => rest.all fun y => !(x == y) && (behindB ops x).testBit y))
theorem e_anyL (hQ : ∀ c a d v w, Q (.panic c) (Act.put a d v) w → Q (.panic c) a w) {a : Act} {w1 : World} {K : Land} {listed : Array Bool} (l rest : List Nat) (hok : eRegL ops κ υ listed l rest = true) (hK : Closed K) (hR : RG T0 w0 Bx.nil K w1)
  (h : TG P ops (fun _ a w => TE P ops Q κ rest a w) T0 w0 κ υ l a Bx.nil K) : wpAny P .any ops Q (rest.length + l.length) listed a w1 := by
 simp only [eRegL, Bool.and_eq_true, List.all_eq_true, decide_eq_true_eq] at hok
 obtain ⟨⟨⟨⟨h1, h2⟩, h3, h4, h5⟩, hc⟩, ⟨⟨hnd, h6⟩, h7⟩, h8⟩ := hok
 have hback : ∀ i o, ops[i]? = some o → ∀ e ∈ o.after, Region.binds .any e = true → e.on < i := fun i o ho e he hb => by
  have := h2 i (List.mem_range.2 (Array.getElem?_eq_some_iff.1 ho).1)
  rw [ho] at this
  have := Array.all_eq_true_iff_forall_mem.1 this e he
  simpa [hb] using this
 refine TG.soundE6 hQ (Region.noSelect_spec h1) hback h7 _ l _ a _ _ _ rfl hnd h4 h6 (fun x hx y hy => ?_) ?_ hK hR h
 ·have := h8 x hx y hy
  exact ⟨by simpa using this.1, this.2⟩
 ·refine ⟨h3, fun i => ?_, fun i o hi ho e he hb => ?_⟩
  ·by_cases hi : i < ops.size
   ·have := h5 i (List.mem_range.2 hi)
    rw [beq_iff_eq] at this
    constructor
    ·intro hm
     rw [List.contains_iff_mem.2 hm] at this
     simpa using this.symm
    ·intro hm
     rw [hm] at this
     exact List.contains_iff_mem.1 (by simpa using this)
   ·constructor
    ·intro hm
     exact absurd (h4 i hm) hi
    ·intro hm
     have : listed.getD i true = true := by simp [h3, hi]
     rw [this] at hm
     cases hm
  ·have := hc i (List.mem_range.2 (Array.getElem?_eq_some_iff.1 ho).1)
   rw [hi, ho] at this
   simp only [Bool.not_true, Bool.false_or] at this
   have := Array.all_eq_true_iff_forall_mem.1 this e he
   simpa [hb] using this
theorem rg_drew {K : Land} {w : World} (hK : Closed K) (hk : K T0 w) (hlt : ∀ i, T0 i → i < w.heap.size) : RG T0 w Bx.nil K { w with drawn := w.drawn + 1 } :=
 ⟨T0, hK T0 w w.drew hk (Mod.refl _ w).drew, hlt, fun _ _ h => h, (Mod.refl _ w).drew, fun _ _ hh => by cases hh⟩
end
end Go.Proofs.YtdeghpmlhcaedaaGreatDoor
namespace Go.Proofs.YtdeghpmlhcaedaaGreatDoor
open Go.RowKit
open Go.ChangeMaps (setBlock)
attribute [local go_sem ↓] wlRdy ldRdy stRdy wlIn ldIn stIn wlLo ldLo stLo
attribute [local go_sem] cell_blk frozen_blk one_int one_bool one_ptr one_slice one_map Value.cells rdr_size rdr_all rdr_one rdr_one' rdr0 rdr1 rdr6 rdr39 rdr40 rdr41 rdr47 rdr0' rdr1' rdr6' rdr39' rdr40' rdr41' rdr47' zRdy_size
structure RdOk (w : World) (x : RdR) : Prop where
 b : SlAt uc 1 w x.b.a x.b.l
 sg : SlAt sgc 64 w x.sg.a x.sg.l
 ks : SlAt kc 32 w x.ks.a x.ks.l
 ins : SlAt inr 3 w x.ins.a x.ins.l
 insB : ∀ y ∈ x.ins.l, SlAt uc 1 w y.a.a y.a.l ∧ SlAt uc 1 w y.d.a y.d.l
 lks : SlAt lor 34 w x.lks.a x.lks.l
 lksB : ∀ y ∈ x.lks.l, SlAt uc 1 w y.w.a y.w.l ∧ SlAt uc 1 w y.r.a y.r.l
 ro : SlAt rcr 34 w x.ro.a x.ro.l
structure RdSm (x : RdC) : Prop where
 b : x.b.length ≤ 1000000
 sg : x.sg.length ≤ 1000000
 ks : x.ks.length ≤ 1000000
 ins : x.ins.length ≤ 1000000
 insB : ∀ y ∈ x.ins, y.a.length ≤ 1000000 ∧ y.d.length ≤ 1000000
 lks : x.lks.length ≤ 1000000
 lksB : ∀ y ∈ x.lks, y.w.length ≤ 1000000 ∧ y.r.length ≤ 1000000
 ro : x.ro.length ≤ 1000000
abbrev Inb (S : Nat → Prop) (a : Option Addr) : Prop := ∀ g o, a = some ⟨g, o, none⟩ → S g
structure RdIn (S : Nat → Prop) (x : RdR) : Prop where
 b : Inb S x.b.a
 sg : Inb S x.sg.a
 ks : Inb S x.ks.a
 ins : Inb S x.ins.a
 insB : ∀ y ∈ x.ins.l, Inb S y.a.a ∧ Inb S y.d.a
 lks : Inb S x.lks.a
 lksB : ∀ y ∈ x.lks.l, Inb S y.w.a ∧ Inb S y.r.a
 ro : Inb S x.ro.a
theorem RdIn.mono {S T : Nat → Prop} {x : RdR} (h : RdIn S x) (hT : ∀ i, S i → T i) : RdIn T x :=
 ⟨fun g o e => hT g (h.b g o e), fun g o e => hT g (h.sg g o e), fun g o e => hT g (h.ks g o e), fun g o e => hT g (h.ins g o e), fun y hy => ⟨fun g o e => hT g ((h.insB y hy).1 g o e), fun g o e => hT g ((h.insB y hy).2 g o e)⟩,
  fun g o e => hT g (h.lks g o e), fun y hy => ⟨fun g o e => hT g ((h.lksB y hy).1 g o e), fun g o e => hT g ((h.lksB y hy).2 g o e)⟩, fun g o e => hT g (h.ro g o e)⟩
theorem RdOk.mod {w w' : World} {x : RdR} {S T : Nat → Prop} (h : RdOk w x) (hm : Mod S w w') (hi : RdIn T x) (hT : ∀ i, T i → ¬ S i) : RdOk w' x :=
 ⟨h.b.mod hm (fun g o e => hT g (hi.b g o e)), h.sg.mod hm (fun g o e => hT g (hi.sg g o e)), h.ks.mod hm (fun g o e => hT g (hi.ks g o e)), h.ins.mod hm (fun g o e => hT g (hi.ins g o e)),
  fun y hy => ⟨(h.insB y hy).1.mod hm (fun g o e => hT g ((hi.insB y hy).1 g o e)), (h.insB y hy).2.mod hm (fun g o e => hT g ((hi.insB y hy).2 g o e))⟩, h.lks.mod hm (fun g o e => hT g (hi.lks g o e)),
  fun y hy => ⟨(h.lksB y hy).1.mod hm (fun g o e => hT g ((hi.lksB y hy).1 g o e)), (h.lksB y hy).2.mod hm (fun g o e => hT g ((hi.lksB y hy).2 g o e))⟩, h.ro.mod hm (fun g o e => hT g (hi.ro g o e))⟩
theorem RdOk.mod0 {w w' : World} {x : RdR} (h : RdOk w x) (hm : Mod (fun _ => False) w w') : RdOk w' x :=
 ⟨h.b.mod0 hm, h.sg.mod0 hm, h.ks.mod0 hm, h.ins.mod0 hm, fun y hy => ⟨(h.insB y hy).1.mod0 hm, (h.insB y hy).2.mod0 hm⟩, h.lks.mod0 hm, fun y hy => ⟨(h.lksB y hy).1.mod0 hm, (h.lksB y hy).2.mod0 hm⟩, h.ro.mod0 hm⟩
def NewL {α : Type} (f : α → Array Value) (n : Nat) (E : TypeId) (b : Nat) (l : List α) (v : Value) : Land := fun T w => NewS f n E b w v l ∧ ∀ g, v.ownBlock = some g → T g
theorem goodN {α : Type} (f : α → Array Value) (n : Nat) (E : TypeId) (b : Nat) (l : List α) (v : Value) : Good (NewL f n E b l v) where
 cl := fun T w w' h hm => ⟨h.1.mod hm (fun g hg hn => hn (h.2 g hg)), h.2⟩
 gr := fun T T' w hT h => ⟨h.1, fun g hg => hT g (h.2 g hg)⟩
theorem newL {α : Type} {f : α → Array Value} {n : Nat} {E : TypeId} {b : Nat} {l : List α} {v : Value} {T : Nat → Prop} {w w' : World} (h : NewS f n E w.heap.size w' v l) (hb : b ≤ w.heap.size) : NewL f n E b l v (Grow T w w') w' :=
 ⟨h.base hb, fun g hg => .inr (h.lt g hg)⟩
theorem rows_set2 {α : Type} {f : α → Array Value} {n i o1 o2 : Nat} {cur : Array Value} {l : List α} (hs : ∀ x, (f x).size = n) (hrow : ∀ (j : Nat) y, l[j]? = some y → cur.extract (j * n) (j * n + n) = f y ∧ j * n + n ≤ cur.size) {x x' : α} (hx : l[i]? = some x) (h1 : o1 < n) (h2 : o2 < n) {u v : Value} (hx' : ((f x).setIfInBounds o1 u).setIfInBounds o2 v = f x') :
  ∀ (j : Nat) y, (l.set i x')[j]? = some y → ((cur.setIfInBounds (i * n + o1) u).setIfInBounds (i * n + o2) v).extract (j * n) (j * n + n) = f y ∧ j * n + n ≤ ((cur.setIfInBounds (i * n + o1) u).setIfInBounds (i * n + o2) v).size := by
 intro j y hy
 have hi := (List.getElem?_eq_some_iff.1 hx).1
 obtain ⟨he, hle⟩ := hrow i x hx
 simp only [Array.size_setIfInBounds]
 by_cases hj : j = i
 ·subst hj
  rw [List.getElem?_set_self hi] at hy
  cases hy
  refine ⟨?_, hle⟩
  rw [← hx', ← he]
  apply Array.ext_getElem?
  intro t
  by_cases ht : t < n
  ·simp only [Array.getElem?_extract, Array.getElem?_setIfInBounds, Array.size_extract, Array.size_setIfInBounds]
   have e1 : (j * n + o1 = j * n + t) ↔ o1 = t := by omega
   have e2 : (j * n + o2 = j * n + t) ↔ o2 = t := by omega
   have e3 : min (j * n + n) cur.size - j * n = n := by omega
   simp only [e1, e2, e3, ht, if_true, h1, h2]
   have e4 : j * n + t < cur.size := by omega
   have e5 : j * n + o1 < cur.size := by omega
   have e6 : j * n + o2 < cur.size := by omega
   simp only [e4, e5, e6, if_true]
  ·rw [Array.getElem?_eq_none (by simp; omega), Array.getElem?_eq_none (by simp; omega)]
 ·rw [List.getElem?_set_ne (fun e => hj e.symm)] at hy
  obtain ⟨he2, hle2⟩ := hrow j y hy
  refine ⟨?_, hle2⟩
  rw [← he2]
  apply Array.ext_getElem?
  intro t
  by_cases ht : t < n
  ·simp only [Array.getElem?_extract, Array.getElem?_setIfInBounds, Array.size_setIfInBounds]
   have q : ¬ (i * n + o1 = j * n + t) ∧ ¬ (i * n + o2 = j * n + t) := by
    rcases Nat.lt_or_ge j i with h | h
    ·have : (j + 1) * n ≤ i * n := Nat.mul_le_mul_right _ h
     rw [Nat.add_mul, Nat.one_mul] at this
     omega
    ·have : (i + 1) * n ≤ j * n := Nat.mul_le_mul_right _ (by omega)
     rw [Nat.add_mul, Nat.one_mul] at this
     omega
   rw [if_neg q.2, if_neg q.1]
  ·rw [Array.getElem?_eq_none (by simp; omega), Array.getElem?_eq_none (by simp; omega)]
theorem inr_size (x : InR) : (inr x).size = 3 := rfl
theorem inr1 (x : InR) : (inr x)[1]? = some (.slice x.a.a x.a.l.length x.a.c) := rfl
theorem inr2 (x : InR) : (inr x)[2]? = some (.slice x.d.a x.d.l.length x.d.c) := rfl
theorem inr_all (x : InR) : (inr x).extract 0 3 = inr x := rfl
theorem inr_one (x : InR) : (inr x).all (·.oneCell') 0 3 = true := by simp [inr, Value.oneCell']
theorem lor_size (x : LoR) : (lor x).size = 34 := kx_size _ _
theorem lor1 (x : LoR) : (lor x)[32]? = some (.slice x.w.a x.w.l.length x.w.c) := kx_get _ _ 0
theorem lor2 (x : LoR) : (lor x)[33]? = some (.slice x.r.a x.r.l.length x.r.c) := kx_get _ _ 1
theorem lor_all (x : LoR) : (lor x).extract 0 34 = lor x := kx_all _ _ rfl
theorem lor_one (x : LoR) : (lor x).all (·.oneCell') 0 34 = true := all_of (lor_size x) (kx_one _ _ rfl)
theorem inr1' (x : InR) (h : 1 < (inr x).size) : (inr x)[1] = .slice x.a.a x.a.l.length x.a.c := rfl
theorem inr2' (x : InR) (h : 2 < (inr x).size) : (inr x)[2] = .slice x.d.a x.d.l.length x.d.c := rfl
theorem lor1' (x : LoR) (h : 32 < (lor x).size) : (lor x)[32] = .slice x.w.a x.w.l.length x.w.c := at_get (lor1 x) h
theorem lor2' (x : LoR) (h : 33 < (lor x).size) : (lor x)[33] = .slice x.r.a x.r.l.length x.r.c := at_get (lor2 x) h
theorem zIn_size : zIn.size = 3 := rfl
theorem zLo_size : zLo.size = 34 := lor_size _
attribute [local go_sem] inr_size inr1 inr2 inr_all inr_one lor_size lor1 lor2 lor_all lor_one inr1' inr2' lor1' lor2' zIn_size zLo_size
theorem kx_set (k : Key) (xs : List Value) (j : Nat) (v : Value) : (kx k xs).setIfInBounds (32 + j) v = kx k (xs.set j v) := by
 apply Array.toList_inj.1
 unfold kx
 rw [Array.toList_setIfInBounds, Array.toList_append, Array.toList_append, List.set_append_right _ _ (by simp)]
 simp
def EI (q : Nat) (w : World) (y z : InR) : Prop := y.con = z.con ∧ NewS uc 1 5 q w (.slice y.a.a y.a.l.length y.a.c) y.a.l ∧ NewS uc 1 5 q w (.slice y.d.a y.d.l.length y.d.c) y.d.l
def EL (q : Nat) (w : World) (y z : LoR) : Prop := y.con = z.con ∧ NewS uc 1 5 q w (.slice y.w.a y.w.l.length y.w.c) y.w.l ∧ NewS uc 1 5 q w (.slice y.r.a y.r.l.length y.r.c) y.r.l
theorem NewS.ty {α : Type} {f : α → Array Value} {n : Nat} {E : TypeId} {base : Nat} {w : World} {v : Value} {l : List α} (h : NewS f n E base w v l) {g : Nat} (hg : v.ownBlock = some g) : ∃ cur, w.heap[g]? = some (.cells cur E (0, 0)) := by
 rcases h with ⟨rfl, _⟩ | ⟨g', cur, rfl, _, h2, _⟩
 ·cases hg
 ·cases hg
  exact ⟨cur, h2⟩
theorem NewS.other {α β : Type} {f : α → Array Value} {n : Nat} {E : TypeId} {base : Nat} {w w' : World} {v : Value} {l : List α} (h : NewS f n E base w v l) {f' : β → Array Value} {n' : Nat} {E' : TypeId} {b' : Nat} {v' : Value} {l' : List β} (h' : NewS f' n' E' b' w v' l') (hE : E ≠ E') (hm : Mod (fun b => v'.ownBlock = some b) w w') : NewS f n E base w' v l := by
 refine h.mod hm (fun g hg e => ?_)
 obtain ⟨c1, k1⟩ := h.ty hg
 obtain ⟨c2, k2⟩ := h'.ty e
 rw [k1] at k2
 injection k2 with k2
 injection k2 with _ k2
 exact hE k2
theorem EI.mod {q : Nat} {w w' : World} {y z : InR} (h : EI q w y z) {S : Nat → Prop} (hm : Mod S w w') (hS : ∀ g cur, w.heap[g]? = some (.cells cur 5 (0, 0)) → ¬ S g) : EI q w' y z :=
 ⟨h.1, h.2.1.mod hm (fun g hg => by obtain ⟨c, k⟩ := h.2.1.ty hg; exact hS g c k), h.2.2.mod hm (fun g hg => by obtain ⟨c, k⟩ := h.2.2.ty hg; exact hS g c k)⟩
theorem EL.mod {q : Nat} {w w' : World} {y z : LoR} (h : EL q w y z) {S : Nat → Prop} (hm : Mod S w w') (hS : ∀ g cur, w.heap[g]? = some (.cells cur 5 (0, 0)) → ¬ S g) : EL q w' y z :=
 ⟨h.1, h.2.1.mod hm (fun g hg => by obtain ⟨c, k⟩ := h.2.1.ty hg; exact hS g c k), h.2.2.mod hm (fun g hg => by obtain ⟨c, k⟩ := h.2.2.ty hg; exact hS g c k)⟩
theorem inr_set (z : InR) (u v : Sl UInt8) : ((inr z).setIfInBounds 1 (.slice u.a u.l.length u.c)).setIfInBounds 2 (.slice v.a v.l.length v.c) = inr ⟨z.p, u, v⟩ := rfl
theorem lor_set (z : LoR) (u v : Sl UInt8) : ((lor z).setIfInBounds 32 (.slice u.a u.l.length u.c)).setIfInBounds 33 (.slice v.a v.l.length v.c) = lor ⟨z.t, u, v⟩ :=
 (congrArg (fun xs : Array Value => xs.setIfInBounds (32 + 1) (.slice v.a v.l.length v.c)) (kx_set z.t _ 0 _)).trans (kx_set z.t _ 1 _)
structure LpI (q : Nat) (w : World) (v : Value) (l0 L : List InR) (i : Nat) : Prop where
 len : L.length = l0.length
 rows : NewS inr 3 138 q w v L
 done : ∀ (j : Nat) y z, j < i → L[j]? = some y → l0[j]? = some z → EI q w y z
 rest : ∀ j : Nat, i ≤ j → L[j]? = l0[j]?
structure LpL (q : Nat) (w : World) (v : Value) (l0 L : List LoR) (i : Nat) : Prop where
 len : L.length = l0.length
 rows : NewS lor 34 141 q w v L
 done : ∀ (j : Nat) y z, j < i → L[j]? = some y → l0[j]? = some z → EL q w y z
 rest : ∀ j : Nat, i ≤ j → L[j]? = l0[j]?
theorem NewS.ok {α : Type} {f : α → Array Value} {n m c : Nat} {E : TypeId} {b : Nat} {w : World} {a : Option Addr} {l : List α} (h : NewS f n E b w (.slice a m c) l) : SlAt f n w a l ∧ Inb (fun g => b ≤ g ∧ g < w.heap.size) a := by
 obtain ⟨a', e, h1, h2⟩ := h.at
 injection e with e _ _
 subst e
 exact ⟨h1, h2⟩
theorem NewS.norm {α : Type} {f : α → Array Value} {n m c : Nat} {E : TypeId} {b : Nat} {w : World} {a : Option Addr} {l : List α} (h : NewS f n E b w (.slice a m c) l) : NewS f n E b w (.slice a l.length l.length) l := by
 obtain ⟨a', e, _, _⟩ := h.at
 injection e with e1 e2 e3
 rw [e2, e3] at h
 exact h
structure RdNew (base : Nat) (w : World) (x : RdR) : Prop where
 b : NewS uc 1 5 base w (.slice x.b.a x.b.l.length x.b.l.length) x.b.l
 sg : NewS sgc 64 134 base w (.slice x.sg.a x.sg.l.length x.sg.l.length) x.sg.l
 ks : NewS kc 32 89 base w (.slice x.ks.a x.ks.l.length x.ks.l.length) x.ks.l
 ins : NewS inr 3 138 base w (.slice x.ins.a x.ins.l.length x.ins.l.length) x.ins.l
 insB : ∀ y ∈ x.ins.l, NewS uc 1 5 base w (.slice y.a.a y.a.l.length y.a.l.length) y.a.l ∧ NewS uc 1 5 base w (.slice y.d.a y.d.l.length y.d.l.length) y.d.l
 lks : NewS lor 34 141 base w (.slice x.lks.a x.lks.l.length x.lks.l.length) x.lks.l
 lksB : ∀ y ∈ x.lks.l, NewS uc 1 5 base w (.slice y.w.a y.w.l.length y.w.l.length) y.w.l ∧ NewS uc 1 5 base w (.slice y.r.a y.r.l.length y.r.l.length) y.r.l
 ro : NewS rcr 34 91 base w (.slice x.ro.a x.ro.l.length x.ro.l.length) x.ro.l
theorem RdNew.ok {base : Nat} {w : World} {x : RdR} (h : RdNew base w x) : RdOk w x :=
 ⟨h.b.ok.1, h.sg.ok.1, h.ks.ok.1, h.ins.ok.1, fun y hy => ⟨(h.insB y hy).1.ok.1, (h.insB y hy).2.ok.1⟩, h.lks.ok.1, fun y hy => ⟨(h.lksB y hy).1.ok.1, (h.lksB y hy).2.ok.1⟩, h.ro.ok.1⟩
theorem RdNew.inn {base : Nat} {w : World} {x : RdR} (h : RdNew base w x) : RdIn (fun g => base ≤ g ∧ g < w.heap.size) x :=
 ⟨h.b.ok.2, h.sg.ok.2, h.ks.ok.2, h.ins.ok.2, fun y hy => ⟨(h.insB y hy).1.ok.2, (h.insB y hy).2.ok.2⟩, h.lks.ok.2, fun y hy => ⟨(h.lksB y hy).1.ok.2, (h.lksB y hy).2.ok.2⟩, h.ro.ok.2⟩
theorem NewS.offT {α : Type} {f : α → Array Value} {n : Nat} {E : TypeId} {base : Nat} {w w' : World} {v : Value} {l : List α} (h : NewS f n E base w v l) {p : Nat} {C : Array Value} {T' : TypeId} (hb : w.heap[p]? = some (.cells C T' (0, 0))) (hE : E ≠ T') (hm : Mod (fun i => i = p) w w') : NewS f n E base w' v l := by
 refine h.mod hm (fun g hg e => ?_)
 subst e
 obtain ⟨c, k⟩ := h.ty hg
 rw [hb] at k
 injection k with k
 injection k with _ k
 exact hE k.symm
theorem map_eq_of {α β γ : Type} {L : List α} {l : List β} {f : α → γ} {g : β → γ} (hl : L.length = l.length) (h : ∀ (j : Nat) y z, L[j]? = some y → l[j]? = some z → f y = g z) : L.map f = l.map g := by
 apply List.ext_getElem?
 intro j
 rw [List.getElem?_map, List.getElem?_map]
 by_cases hj : j < L.length
 ·have h1 := List.getElem?_eq_getElem hj
  have h2 := List.getElem?_eq_getElem (l := l) (i := j) (by omega)
  rw [h1, h2]
  exact congrArg some (h j _ _ h1 h2)
 ·rw [List.getElem?_eq_none (by omega), List.getElem?_eq_none (by omega)]
  rfl
set_option maxRecDepth 20000 in
set_option maxHeartbeats 6400000 in
theorem fresh_n {w : World} {x : RdR} (hx : RdOk w x) (hs : RdSm x.con) : Calls Tryz.prog 36 #[.agg (rdr x)] w fun e w' => ∃ y : RdR, e = .returned (.agg (rdr y)) ∧ y.con = x.con ∧ RdNew w.heap.size w' y ∧ Mod (fun _ => False) w w' := by
 have HX := Lib.hid (And.intro hx hs)
 have HB0 : Hid (∃ q, q = w.heap.size) := Lib.hid ⟨_, rfl⟩
 clear hx hs
 go_enter Tryz.func36, Tryz.ntmps36
 go_upto_region 0 with fail
 refine wp_pass0 (C := fun _ _ _ => False) (κ := fun i => [3, 3].getD i 0) [0, 1] (by kernel_rfl) (by kernel_rfl) (fun _ _ d _ _ h => by cases d <;> first | exact h | exact absurd h (hP _ _ _)) ?_
 (refine TD.box (v := ?v1) (by simp only [zK]; rfl) rfl (by rfl) rfl rfl ?hx1 (fun p1 hp1 => ?n1); (case hx1 => simp only [Act.eval, zM]; try rfl); try simp only [Act.put, zL])
 (refine TD.allocB (by simp only [zK]; rfl) rfl (by rfl) rfl rfl alRdy (fun p2 hp2 => ?n2); try simp only [Act.put, zL])
 obtain ⟨ne_p2_p1, hp2⟩ := Bx.set_none hp2
 refine TD.nil (fun w1 hr => ?_)
 have kp1 := hr.box p1 _ (by first | exact Bx.set_same _ _ _ | (simp only [Bx.set_ne _ (Ne.symm ne_p2_p1), Bx.set_ne _ ne_p2_p1, Bx.set_same]; rfl)); dsimp only [Value.cells] at kp1; obtain ⟨gp1, kp1⟩ := kp1
 have kp2 := hr.box p2 _ (by first | exact Bx.set_same _ _ _ | (simp only [Bx.set_ne _ (Ne.symm ne_p2_p1), Bx.set_ne _ ne_p2_p1, Bx.set_same]; rfl)); dsimp only [Value.cells] at kp2; obtain ⟨gp2, kp2⟩ := kp2
 have m1 := hr.mod
 clear hr
 go_upto_region 1 with fail
 have Lkp1 := lt_size kp1
 have Lkp2 := lt_size kp2
 refine wp_epass (T0 := fun _ => False) (K := fun _ _ => True) (κ := fun i => [0, 0, 6, 0, 0, 6, 0, 6, 0, 6].getD i 0) (υ := fun i => [[], [], [], [], [], [], [], [], [], []].getD i []) [0, 1, 2, 3, 4, 5, 6] [7, 8, 9] (by kernel_rfl) (by kernel_rfl) (Good.true).cl (trivial) (fun _ h => h.elim) ?_
 have gK := Good.true
 (refine TG.v0 (v := ?v3) (by simp only [zK]; rfl) rfl (by rfl) (fun w1 => ?y3) ?n3; (case y3 => go_simp; try with_reducible rfl); try simp only [Act.put, zL])
 (refine TG.load (v := ?v4) (p := ?p4) (by simp only [zK]; rfl) rfl (by rfl) rfl ?hx4 (fun wq hSq => ?y4) ?n4; (case hx4 => simp only [Act.eval, zM]; try rfl); (case y4 => (have kp1q := hSq.at kp1 (fun h => h); have kp2q := hSq.at kp2 (fun h => h); go_simp; (try with_reducible rfl))); try simp only [Act.put, zL])
 (refine TG.callM (f := ?f5) (args := ?r5) (NewL uc 1 5 w.heap.size x.b.l) (goodN uc 1 5 w.heap.size x.b.l) gK (by simp only [zK]; rfl) rfl (by rfl) (fun w1 => ?y5) (fun T wq kq ltq hSq ub => ?hsp5) ?n5; (case y5 => (go_simp; (first | with_reducible rfl | (constructor <;> with_reducible rfl)))); (case hsp5 => (have kp1q := hSq.at kp1 (fun h => h); have kp2q := hSq.at kp2 (fun h => h); exact (ownB_c (c := x.b.c) (HX.out.1.b.mod0 (m1.then0 hSq)) HX.out.2.b).mono (fun e w' h => by obtain ⟨v, h1, h2, h3⟩ := h; exact ⟨v, h1, h3, newL h2 (m1.then0 hSq).size⟩))); rintro v5 ⟨wI, TI, hI⟩; replace gK := gK.and ((goodN uc 1 5 w.heap.size x.b.l) v5); skip; (try clear hI TI wI); try simp only [Act.put, zL])
 (refine TG.v0 (v := ?v6) (by simp only [zK]; rfl) rfl (by rfl) (fun w1 => ?y6) ?n6; (case y6 => go_simp; try with_reducible rfl); try simp only [Act.put, zL])
 (refine TG.load (v := ?v7) (p := ?p7) (by simp only [zK]; rfl) rfl (by rfl) rfl ?hx7 (fun wq hSq => ?y7) ?n7; (case hx7 => simp only [Act.eval, zM]; try rfl); (case y7 => (have kp1q := hSq.at kp1 (fun h => h); have kp2q := hSq.at kp2 (fun h => h); go_simp; (try with_reducible rfl))); try simp only [Act.put, zL])
 (refine TG.callM (f := ?f8) (args := ?r8) (NewL rcr 34 91 w.heap.size x.ro.l) (goodN rcr 34 91 w.heap.size x.ro.l) gK (by simp only [zK]; rfl) rfl (by rfl) (fun w1 => ?y8) (fun T wq kq ltq hSq ub => ?hsp8) ?n8; (case y8 => (go_simp; (first | with_reducible rfl | (constructor <;> with_reducible rfl)))); (case hsp8 => (have kp1q := hSq.at kp1 (fun h => h); have kp2q := hSq.at kp2 (fun h => h); exact (ownR_c (c := x.ro.c) (HX.out.1.ro.mod0 (m1.then0 hSq)) HX.out.2.ro).mono (fun e w' h => by obtain ⟨v, h1, h2, h3⟩ := h; exact ⟨v, h1, h3, newL h2 (m1.then0 hSq).size⟩))); rintro v8 ⟨wI, TI, hI⟩; replace gK := gK.and ((goodN rcr 34 91 w.heap.size x.ro.l) v8); skip; (try clear hI TI wI); try simp only [Act.put, zL])
 (refine TG.v0 (v := ?v9) (by simp only [zK]; rfl) rfl (by rfl) (fun w1 => ?y9) ?n9; (case y9 => go_simp; try with_reducible rfl); try simp only [Act.put, zL])
 refine TG.nil (fun w2 ⟨TR, hr⟩ => ?_)
 have kp1 := hr.mod.at kp1 (fun h => h)
 have kp2 := hr.mod.at kp2 (fun h => h)
 clear gK
 obtain ⟨⟨_, hN5, hT5⟩, hN8, hT8⟩ := hr.k
 have hp1 : ∀ g, TR g → g ≠ p1 := fun g hg e => (hr.old g (e ▸ Lkp1) hg).elim
 have hp2 : ∀ g, TR g → g ≠ p2 := fun g hg e => (hr.old g (e ▸ Lkp2) hg).elim
 have m2 := m1.then0 hr.mod
 obtain ⟨a5, e5, _⟩ := hN5.at
 obtain ⟨a8, e8, _⟩ := hN8.at
 subst e5
 subst e8
 have hne12 : p2 ≠ p1 := ne_p2_p1
 have HN := Lib.hid (And.intro hN5 (And.intro hT5 (And.intro hN8 (And.intro hT8 (And.intro hp1 hp2)))))
 clear hr hN5 hT5 hN8 hT8 hp1 hp2
 generalize hlb : x.b.l.length = lb at *
 generalize hlr : x.ro.l.length = lr at *
 refine TE.step (by simp only [zK]; rfl) rfl ?_
 (refine eff_store (X := ?X10) (Y := ?Y10) (w' := ?w10) (by simp only [zK]; rfl) (by rfl) rfl ?hx10 ?hz10 ?y10 ?n10; (case hx10 => simp only [Act.eval, zM]; try rfl); (case hz10 => simp only [Act.eval, zM]; try rfl); (case y10 => go_simp; try with_reducible rfl))
 (first | refine TE.mid_set kp1 (fun wn kp1 mS => ?_) | refine TE.mid_setCell kp1 (fun wn kp1 mS => ?_))
 have kp2 := mS.at_ne kp2 hne12
 have mp := mS
 clear mS
 (refine TE.val0 (v := ?v11) (by simp only [zK]; rfl) (by rfl) (fun w1 => ?y11) ?n11; (case y11 => go_simp; try with_reducible rfl); try simp only [Act.put, zL])
 refine TE.step (by simp only [zK]; rfl) rfl ?_
 (refine eff_store (X := ?X12) (Y := ?Y12) (w' := ?w12) (by simp only [zK]; rfl) (by rfl) rfl ?hx12 ?hz12 ?y12 ?n12; (case hx12 => simp only [Act.eval, zM]; try rfl); (case hz12 => simp only [Act.eval, zM]; try rfl); (case y12 => go_simp; try with_reducible rfl))
 (first | refine TE.nil_set kp1 (fun wn kp1 mS => ?_) | refine TE.nil_setCell kp1 (fun wn kp1 mS => ?_))
 have kp2 := mS.at_ne kp2 hne12
 have mp2 := mp.trans mS
 have m3 := m2.thenB mp2 (.inl gp1)
 have HN3 : Hid (NewS uc 1 5 w.heap.size wn (.slice a5 lb lb) x.b.l ∧ NewS rcr 34 91 w.heap.size wn (.slice a8 lr lr) x.ro.l) := Lib.hid ⟨HN.out.1.mod mp2 (fun g hg => HN.out.2.2.2.2.1 g (HN.out.2.1 g hg)), HN.out.2.2.1.mod mp2 (fun g hg => HN.out.2.2.2.2.1 g (HN.out.2.2.2.1 g hg))⟩
 have HL0 := Lib.hid (And.intro hlb hlr)
 obtain ⟨y1, hy1⟩ : ∃ y1 : RdR, y1 = { x with b := ⟨a5, x.b.l, lb⟩, ro := ⟨a8, x.ro.l, lr⟩ } := ⟨_, rfl⟩
 replace kp1 : wn.heap[p1]? = some (.cells (rdr y1) 57 (0, 0)) := by
  rw [set_b x.b.l hlb, set_ro x.ro.l hlr] at kp1
  rw [hy1]
  exact kp1
 have hysg : y1.sg = x.sg := by rw [hy1]
 have hyks : y1.ks = x.ks := by rw [hy1]
 have hyin : y1.ins = x.ins := by rw [hy1]
 have hylk : y1.lks = x.lks := by rw [hy1]
 have HY1 := Lib.hid hy1
 clear hy1
 obtain ⟨w3, rfl⟩ : ∃ w3 : World, w3 = wn := ⟨_, rfl⟩
 clear mS mp mp2 HN m2 hlb hlr
 have HP1 := Lib.hid kp1
 go_upto_region 3 with fail
 have Lkp1 := lt_size kp1
 have Lkp2 := lt_size kp2
 refine wp_region_any (by kernel_rfl) ?_
 change wpAny _ .any _ _ 34 _ _ _
 (refine take_first (i := 0) (v := ?v13) (by simp only [zK]; rfl) (by kernel_rfl) (fun _ _ d _ _ h => by cases d <;> first | exact h | exact absurd h (hP _ _ _)) ?hw13 (fun w1 => ?y13) ?n13; (case hw13 => rfl); (case y13 => go_simp; try with_reducible rfl); try simp only [Act.put, zL])
 (refine take_first (i := 1) (v := ?v14) (by simp only [zK]; rfl) (by kernel_rfl) (fun _ _ d _ _ h => by cases d <;> first | exact h | exact absurd h (hP _ _ _)) ?hw14 (fun w1 => ?y14) ?n14; (case hw14 => rfl); (case y14 => go_simp; try with_reducible rfl); try simp only [Act.put, zL])
 (refine take_first (i := 2) (v := ?v15) (by simp only [zK]; rfl) (by kernel_rfl) (fun _ _ d _ _ h => by cases d <;> first | exact h | exact absurd h (hP _ _ _)) ?hw15 (fun w1 => ?y15) ?n15; (case hw15 => rfl); (case y15 => go_simp; try with_reducible rfl); try simp only [Act.put, zL])
 refine e_anyL (T0 := fun _ => False) (K := fun _ _ => True) (κ := fun i => [0, 0, 0, 0, 0, 0, 6, 0, 0, 0, 0, 6, 0, 0, 0, 0, 6, 0, 0, 0, 0, 6, 0, 0, 6, 0, 0, 6, 0, 0, 6, 0, 0, 6].getD i 0) (υ := fun i => [[], [], [], [], [], [], [], [], [], [], [], [], [], [], [], [], [], [], [], [], [], [], [], [], [], [], [], [], [], [], [], [], [], []].getD i []) (fun _ _ d _ _ h => by cases d <;> first | exact h | exact absurd h (hP _ _ _)) [3, 4, 5, 6, 7, 8, 9, 10, 11, 12, 13, 14, 15, 16, 17, 18, 19, 20, 21, 22, 23] [24, 25, 26, 27, 28, 29, 30, 31, 32, 33] (by kernel_rfl) (Good.true).cl (rg_drew (Good.true).cl (trivial) (fun _ h => h.elim)) ?_
 have gK := Good.true
 (refine TG.v0 (v := ?v16) (by simp only [zK]; rfl) rfl (by rfl) (fun w1 => ?y16) ?n16; (case y16 => go_simp; try with_reducible rfl); try simp only [Act.put, zL])
 (refine TG.v0 (v := ?v17) (by simp only [zK]; rfl) rfl (by rfl) (fun w1 => ?y17) ?n17; (case y17 => go_simp; try with_reducible rfl); try simp only [Act.put, zL])
 (refine TG.load (v := ?v18) (p := ?p18) (by simp only [zK]; rfl) rfl (by rfl) rfl ?hx18 (fun wq hSq => ?y18) ?n18; (case hx18 => simp only [Act.eval, zM]; try rfl); (case y18 => (have kp1q := hSq.at kp1 (fun h => h); have kp2q := hSq.at kp2 (fun h => h); go_simp; (try with_reducible rfl))); try simp only [Act.put, zL])
 (refine TG.callM (f := ?f19) (args := ?r19) (NewL sgc 64 134 w.heap.size x.sg.l) (goodN sgc 64 134 w.heap.size x.sg.l) gK (by simp only [zK]; rfl) rfl (by rfl) (fun w1 => ?y19) (fun T wq kq ltq hSq ub => ?hsp19) ?n19; (case y19 => (go_simp; (first | with_reducible rfl | (constructor <;> with_reducible rfl)))); (case hsp19 => (have kp1q := hSq.at kp1 (fun h => h); have kp2q := hSq.at kp2 (fun h => h); exact (ownS_c (c := x.sg.c) (HX.out.1.sg.mod0 (m3.then0 hSq)) HX.out.2.sg).mono (fun e w' h => by obtain ⟨v, h1, h2, h3⟩ := h; exact ⟨v, h1, h3, newL h2 (m3.then0 hSq).size⟩))); rintro v19 ⟨wI, TI, hI⟩; replace gK := gK.and ((goodN sgc 64 134 w.heap.size x.sg.l) v19); skip; (try clear hI TI wI); try simp only [Act.put, zL])
 (refine TG.v0 (v := ?v20) (by simp only [zK]; rfl) rfl (by rfl) (fun w1 => ?y20) ?n20; (case y20 => go_simp; try with_reducible rfl); try simp only [Act.put, zL])
 (refine TG.v0 (v := ?v21) (by simp only [zK]; rfl) rfl (by rfl) (fun w1 => ?y21) ?n21; (case y21 => go_simp; try with_reducible rfl); try simp only [Act.put, zL])
 (refine TG.v0 (v := ?v22) (by simp only [zK]; rfl) rfl (by rfl) (fun w1 => ?y22) ?n22; (case y22 => go_simp; try with_reducible rfl); try simp only [Act.put, zL])
 (refine TG.load (v := ?v23) (p := ?p23) (by simp only [zK]; rfl) rfl (by rfl) rfl ?hx23 (fun wq hSq => ?y23) ?n23; (case hx23 => simp only [Act.eval, zM]; try rfl); (case y23 => (have kp1q := hSq.at kp1 (fun h => h); have kp2q := hSq.at kp2 (fun h => h); go_simp; (try with_reducible rfl))); try simp only [Act.put, zL])
 (refine TG.callM (f := ?f24) (args := ?r24) (NewL kc 32 89 w.heap.size x.ks.l) (goodN kc 32 89 w.heap.size x.ks.l) gK (by simp only [zK]; rfl) rfl (by rfl) (fun w1 => ?y24) (fun T wq kq ltq hSq ub => ?hsp24) ?n24; (case y24 => (go_simp; (first | with_reducible rfl | (constructor <;> with_reducible rfl)))); (case hsp24 => (have kp1q := hSq.at kp1 (fun h => h); have kp2q := hSq.at kp2 (fun h => h); exact (ownK_c (c := x.ks.c) (HX.out.1.ks.mod0 (m3.then0 hSq)) HX.out.2.ks).mono (fun e w' h => by obtain ⟨v, h1, h2, h3⟩ := h; exact ⟨v, h1, h3, newL h2 (m3.then0 hSq).size⟩))); rintro v24 ⟨wI, TI, hI⟩; replace gK := gK.and ((goodN kc 32 89 w.heap.size x.ks.l) v24); skip; (try clear hI TI wI); try simp only [Act.put, zL])
 (refine TG.v0 (v := ?v25) (by simp only [zK]; rfl) rfl (by rfl) (fun w1 => ?y25) ?n25; (case y25 => go_simp; try with_reducible rfl); try simp only [Act.put, zL])
 (refine TG.v0 (v := ?v26) (by simp only [zK]; rfl) rfl (by rfl) (fun w1 => ?y26) ?n26; (case y26 => go_simp; try with_reducible rfl); try simp only [Act.put, zL])
 (refine TG.v0 (v := ?v27) (by simp only [zK]; rfl) rfl (by rfl) (fun w1 => ?y27) ?n27; (case y27 => go_simp; try with_reducible rfl); try simp only [Act.put, zL])
 (refine TG.load (v := ?v28) (p := ?p28) (by simp only [zK]; rfl) rfl (by rfl) rfl ?hx28 (fun wq hSq => ?y28) ?n28; (case hx28 => simp only [Act.eval, zM]; try rfl); (case y28 => (have kp1q := hSq.at kp1 (fun h => h); have kp2q := hSq.at kp2 (fun h => h); go_simp; (try with_reducible rfl))); try simp only [Act.put, zL])
 (refine TG.callM (f := ?f29) (args := ?r29) (NewL inr 3 138 w.heap.size x.ins.l) (goodN inr 3 138 w.heap.size x.ins.l) gK (by simp only [zK]; rfl) rfl (by rfl) (fun w1 => ?y29) (fun T wq kq ltq hSq ub => ?hsp29) ?n29; (case y29 => (go_simp; (first | with_reducible rfl | (constructor <;> with_reducible rfl)))); (case hsp29 => (have kp1q := hSq.at kp1 (fun h => h); have kp2q := hSq.at kp2 (fun h => h); exact (ownI_c (c := x.ins.c) (HX.out.1.ins.mod0 (m3.then0 hSq)) (by have := HX.out.2.ins; simpa [RdR.con] using this)).mono (fun e w' h => by obtain ⟨v, h1, h2, h3⟩ := h; exact ⟨v, h1, h3, newL h2 (m3.then0 hSq).size⟩))); rintro v29 ⟨wI, TI, hI⟩; replace gK := gK.and ((goodN inr 3 138 w.heap.size x.ins.l) v29); skip; (try clear hI TI wI); try simp only [Act.put, zL])
 (refine TG.v0 (v := ?v30) (by simp only [zK]; rfl) rfl (by rfl) (fun w1 => ?y30) ?n30; (case y30 => go_simp; try with_reducible rfl); try simp only [Act.put, zL])
 (refine TG.v0 (v := ?v31) (by simp only [zK]; rfl) rfl (by rfl) (fun w1 => ?y31) ?n31; (case y31 => go_simp; try with_reducible rfl); try simp only [Act.put, zL])
 (refine TG.v0 (v := ?v32) (by simp only [zK]; rfl) rfl (by rfl) (fun w1 => ?y32) ?n32; (case y32 => go_simp; try with_reducible rfl); try simp only [Act.put, zL])
 (refine TG.load (v := ?v33) (p := ?p33) (by simp only [zK]; rfl) rfl (by rfl) rfl ?hx33 (fun wq hSq => ?y33) ?n33; (case hx33 => simp only [Act.eval, zM]; try rfl); (case y33 => (have kp1q := hSq.at kp1 (fun h => h); have kp2q := hSq.at kp2 (fun h => h); go_simp; (try with_reducible rfl))); try simp only [Act.put, zL])
 (refine TG.callM (f := ?f34) (args := ?r34) (NewL lor 34 141 w.heap.size x.lks.l) (goodN lor 34 141 w.heap.size x.lks.l) gK (by simp only [zK]; rfl) rfl (by rfl) (fun w1 => ?y34) (fun T wq kq ltq hSq ub => ?hsp34) ?n34; (case y34 => (go_simp; (first | with_reducible rfl | (constructor <;> with_reducible rfl)))); (case hsp34 => (have kp1q := hSq.at kp1 (fun h => h); have kp2q := hSq.at kp2 (fun h => h); exact (ownL_c (c := x.lks.c) (HX.out.1.lks.mod0 (m3.then0 hSq)) (by have := HX.out.2.lks; simpa [RdR.con] using this)).mono (fun e w' h => by obtain ⟨v, h1, h2, h3⟩ := h; exact ⟨v, h1, h3, newL h2 (m3.then0 hSq).size⟩))); rintro v34 ⟨wI, TI, hI⟩; replace gK := gK.and ((goodN lor 34 141 w.heap.size x.lks.l) v34); skip; (try clear hI TI wI); try simp only [Act.put, zL])
 (refine TG.v0 (v := ?v35) (by simp only [zK]; rfl) rfl (by rfl) (fun w1 => ?y35) ?n35; (case y35 => go_simp; try with_reducible rfl); try simp only [Act.put, zL])
 (refine TG.v0 (v := ?v36) (by simp only [zK]; rfl) rfl (by rfl) (fun w1 => ?y36) ?n36; (case y36 => go_simp; try with_reducible rfl); try simp only [Act.put, zL])
 refine TG.nil (fun w4 ⟨TR, hr⟩ => ?_)
 have kp1 := hr.mod.at kp1 (fun h => h)
 have kp2 := hr.mod.at kp2 (fun h => h)
 clear gK
 obtain ⟨⟨⟨⟨_, hN16, hT16⟩, hN21, hT21⟩, hN26, hT26⟩, hN31, hT31⟩ := hr.k
 have hp1 : ∀ g, TR g → g ≠ p1 := fun g hg e => (hr.old g (e ▸ Lkp1) hg).elim
 have hrm := hr.mod
 have m4 := m3.then0 hr.mod
 obtain ⟨a16, e16, _⟩ := hN16.at
 obtain ⟨a21, e21, _⟩ := hN21.at
 obtain ⟨a26, e26, _⟩ := hN26.at
 obtain ⟨a31, e31, _⟩ := hN31.at
 subst e16
 subst e21
 subst e26
 subst e31
 have HN := Lib.hid (And.intro hN16 (And.intro hT16 (And.intro hN21 (And.intro hT21 (And.intro hN26 (And.intro hT26 (And.intro hN31 (And.intro hT31 (And.intro hp1 hrm)))))))))
 clear hr hN16 hT16 hN21 hT21 hN26 hT26 hN31 hT31 hp1 hrm
 generalize hl16 : x.sg.l.length = l16 at *
 generalize hl21 : x.ks.l.length = l21 at *
 generalize hl26 : x.ins.l.length = l26 at *
 generalize hl31 : x.lks.l.length = l31 at *
 refine TE.step (by simp only [zK]; rfl) rfl ?_
 (refine eff_store (X := ?X37) (Y := ?Y37) (w' := ?w37) (by simp only [zK]; rfl) (by rfl) rfl ?hx37 ?hz37 ?y37 ?n37; (case hx37 => simp only [Act.eval, zM]; try rfl); (case hz37 => simp only [Act.eval, zM]; try rfl); (case y37 => go_simp; try with_reducible rfl))
 (first | refine TE.mid_set kp1 (fun wn kp1 mS => ?_) | refine TE.mid_setCell kp1 (fun wn kp1 mS => ?_))
 have kp2 := mS.at_ne kp2 hne12
 have mp := mS
 clear mS
 (refine TE.val0 (v := ?v38) (by simp only [zK]; rfl) (by rfl) (fun w1 => ?y38) ?n38; (case y38 => go_simp; try with_reducible rfl); try simp only [Act.put, zL])
 (refine TE.val0 (v := ?v39) (by simp only [zK]; rfl) (by rfl) (fun w1 => ?y39) ?n39; (case y39 => go_simp; try with_reducible rfl); try simp only [Act.put, zL])
 refine TE.step (by simp only [zK]; rfl) rfl ?_
 (refine eff_store (X := ?X40) (Y := ?Y40) (w' := ?w40) (by simp only [zK]; rfl) (by rfl) rfl ?hx40 ?hz40 ?y40 ?n40; (case hx40 => simp only [Act.eval, zM]; try rfl); (case hz40 => simp only [Act.eval, zM]; try rfl); (case y40 => go_simp; try with_reducible rfl))
 (first | refine TE.mid_set kp1 (fun wn kp1 mS => ?_) | refine TE.mid_setCell kp1 (fun wn kp1 mS => ?_))
 have kp2 := mS.at_ne kp2 hne12
 have mp := mp.trans mS
 clear mS
 (refine TE.val0 (v := ?v41) (by simp only [zK]; rfl) (by rfl) (fun w1 => ?y41) ?n41; (case y41 => go_simp; try with_reducible rfl); try simp only [Act.put, zL])
 (refine TE.val0 (v := ?v42) (by simp only [zK]; rfl) (by rfl) (fun w1 => ?y42) ?n42; (case y42 => go_simp; try with_reducible rfl); try simp only [Act.put, zL])
 refine TE.step (by simp only [zK]; rfl) rfl ?_
 (refine eff_store (X := ?X43) (Y := ?Y43) (w' := ?w43) (by simp only [zK]; rfl) (by rfl) rfl ?hx43 ?hz43 ?y43 ?n43; (case hx43 => simp only [Act.eval, zM]; try rfl); (case hz43 => simp only [Act.eval, zM]; try rfl); (case y43 => go_simp; try with_reducible rfl))
 (first | refine TE.mid_set kp1 (fun wn kp1 mS => ?_) | refine TE.mid_setCell kp1 (fun wn kp1 mS => ?_))
 have kp2 := mS.at_ne kp2 hne12
 have mp := mp.trans mS
 clear mS
 (refine TE.val0 (v := ?v44) (by simp only [zK]; rfl) (by rfl) (fun w1 => ?y44) ?n44; (case y44 => go_simp; try with_reducible rfl); try simp only [Act.put, zL])
 (refine TE.val0 (v := ?v45) (by simp only [zK]; rfl) (by rfl) (fun w1 => ?y45) ?n45; (case y45 => go_simp; try with_reducible rfl); try simp only [Act.put, zL])
 refine TE.step (by simp only [zK]; rfl) rfl ?_
 (refine eff_store (X := ?X46) (Y := ?Y46) (w' := ?w46) (by simp only [zK]; rfl) (by rfl) rfl ?hx46 ?hz46 ?y46 ?n46; (case hx46 => simp only [Act.eval, zM]; try rfl); (case hz46 => simp only [Act.eval, zM]; try rfl); (case y46 => go_simp; try with_reducible rfl))
 (first | refine TE.nil_set kp1 (fun wn kp1 mS => ?_) | refine TE.nil_setCell kp1 (fun wn kp1 mS => ?_))
 have kp2 := mS.at_ne kp2 hne12
 have mp := mp.trans mS
 clear mS
 have m5 := m4.thenB mp (.inl gp1)
 obtain ⟨y2, hy2⟩ : ∃ y2 : RdR, y2 = { y1 with sg := ⟨a16, x.sg.l, l16⟩, ks := ⟨a21, x.ks.l, l21⟩, ins := ⟨a26, x.ins.l, l26⟩, lks := ⟨a31, x.lks.l, l31⟩ } := ⟨_, rfl⟩
 replace kp1 : wn.heap[p1]? = some (.cells (rdr y2) 57 (0, 0)) := by
  rw [set_sg x.sg.l hl16, set_ks x.ks.l hl21, set_ins x.ins.l hl26, set_lks x.lks.l hl31] at kp1
  rw [hy2]
  exact kp1
 have hins : y2.ins = ⟨a26, x.ins.l, l26⟩ := by rw [hy2]
 have hlks : y2.lks = ⟨a31, x.lks.l, l31⟩ := by rw [hy2]
 have HF : Hid (NewS uc 1 5 w.heap.size wn (.slice a5 lb lb) x.b.l ∧ NewS rcr 34 91 w.heap.size wn (.slice a8 lr lr) x.ro.l ∧ NewS sgc 64 134 w.heap.size wn (.slice a16 l16 l16) x.sg.l ∧ NewS kc 32 89 w.heap.size wn (.slice a21 l21 l21) x.ks.l ∧ NewS lor 34 141 w.heap.size wn (.slice a31 l31 l31) x.lks.l) := Lib.hid (by
  obtain ⟨q1, q2, q3, q4, q5, q6, q7, q8, q9, q10⟩ := HN.out
  have hpl : ∀ g, g < w3.heap.size → g ≠ p1 → wn.heap[g]? = w3.heap[g]? := fun g hg hne => (mp.block g (Nat.lt_of_lt_of_le hg q10.size) hne).trans (q10.block g hg (fun h => h))
  have hb1 : ∀ {α : Type} {f : α → Array Value} {n : Nat} {E : TypeId} {v : Value} {l : List α}, E ≠ 57 → NewS f n E w.heap.size w3 v l → NewS f n E w.heap.size wn v l := fun {α f n E v l} hE h => by
   refine ((h.mod0 q10).mod mp (fun g hg e => ?_))
   obtain ⟨c, kc⟩ := (h.mod0 q10).ty hg
   subst e
   have := q10.at0 HP1.out
   rw [this] at kc
   injection kc with kc
   injection kc with _ kc
   exact hE kc.symm
  exact ⟨hb1 (by decide) HN3.out.1, hb1 (by decide) HN3.out.2, q1.mod mp (fun g hg => q9 g (q2 g hg)), q3.mod mp (fun g hg => q9 g (q4 g hg)), q7.mod mp (fun g hg => q9 g (q8 g hg))⟩)
 have HI0 : Hid (LpI w.heap.size wn (.slice a26 l26 l26) x.ins.l x.ins.l 0) := Lib.hid (by
  obtain ⟨q1, q2, q3, q4, q5, q6, q7, q8, q9, q10⟩ := HN.out
  exact ⟨rfl, q5.mod mp (fun g hg => q9 g (q6 g hg)), fun j y z hj => by omega, fun _ _ => rfl⟩)
 have HY2 := Lib.hid hy2
 have HLL := Lib.hid (And.intro hl16 (And.intro hl21 (And.intro hl26 hl31)))
 obtain ⟨w5, rfl⟩ : ∃ w5 : World, w5 = wn := ⟨_, rfl⟩
 have hB26 : l26 ≤ 1000000 := by have := HX.out.2.ins; rw [← hl26]; simpa [RdR.con] using this
 have hB31 : l31 ≤ 1000000 := by have := HX.out.2.lks; rw [← hl31]; simpa [RdR.con] using this
 clear HN mp m4 hy2 hl16 hl21 hysg hyks hyin hylk HN3
 go_wp2_with fail
 go_loopw [53, 4, 5] (fun s53 s4 s5 ws => ∃ (i : Nat) (L : List InR), i ≤ l26 ∧ s53 = .int .i64 (i : Int) ∧ Hid (LpI w.heap.size ws (.slice a26 l26 l26) x.ins.l L i) ∧ Mod (fun b => (Value.slice a26 l26 l26).ownBlock = some b) w5 ws ∧ Mod (fun _ => False) w ws ∧ ws.heap[p1]? = some (.cells (rdr y2) 57 (0, 0)) ∧ ws.heap[p2]? = some (.cells zRdy 57 (0, 0))) (fun s53 _ _ _ => l26 - (intOf s53).toNat)
 case atStart => exact ⟨0, x.ins.l, by omega, rfl, HI0, Mod.refl _ _, m5, kp1, kp2⟩
 case round =>
  obtain ⟨i, L, hi, rfl, HP, hmL, hm0, kp1, kp2⟩ := hrel
  by_cases hlt : i < l26
  ·obtain ⟨z, hz⟩ : ∃ z, x.ins.l[i]? = some z := ⟨_, List.getElem?_eq_getElem (by have := HLL.out; omega)⟩
   have hLz : L[i]? = some z := by rw [HP.out.rest i (Nat.le_refl _), hz]
   have hLlen : L.length = l26 := by rw [HP.out.len]; have := HLL.out; omega
   obtain ⟨g, cur, hv, hgb, kg, hrow⟩ : ∃ g cur, Value.slice a26 l26 l26 = .slice (some ⟨g, 0, none⟩) l26 l26 ∧ w.heap.size ≤ g ∧ wr.heap[g]? = some (.cells cur 138 (0, 0)) ∧ ∀ (j : Nat) y, L[j]? = some y → cur.extract (j * 3) (j * 3 + 3) = inr y ∧ j * 3 + 3 ≤ cur.size := by
    rcases HP.out.rows with ⟨_, h⟩ | ⟨g, cur, h1, h2, h3, h4⟩
    ·rw [h] at hLz; cases hLz
    ·rw [hLlen] at h1
     exact ⟨g, cur, h1, h2, h3, h4⟩
   injection hv with hv _ _
   obtain ⟨he, hle⟩ := hrow i z hLz
   have hgp1 : g ≠ p1 := ne_of_obj kg kp1 (obj_ty (by decide))
   have hgp2 : g ≠ p2 := ne_of_obj kg kp2 (obj_ty (by decide))
   have hzm : z ∈ x.ins.l := List.mem_of_getElem? hz
   have hzb := HX.out.1.insB z hzm
   have hzl : z.a.l.length ≤ 1000000 ∧ z.d.l.length ≤ 1000000 := HX.out.2.insB z.con (by show _ ∈ x.ins.l.map _; exact List.mem_map.2 ⟨z, hzm, rfl⟩)
   have hc1 : cur[i * 3 + 1]? = some (.slice z.a.a z.a.l.length z.a.c) := cellC he (j := 1) (inr1 z)
   have hc2 : cur[i * 3 + 2]? = some (.slice z.d.a z.d.l.length z.d.c) := cellC he (j := 2) (inr2 z)
   have HZ := Lib.hid (And.intro hz (And.intro hLz (And.intro hLlen (And.intro hgb (And.intro hrow (And.intro hzb (And.intro hzl hv)))))))
   obtain ⟨wa, rfl⟩ : ∃ wa : World, wa = wr := ⟨_, rfl⟩
   have hlenE := HLL.out
   clear hrow hzb hzl hz hLz hLlen
   go_upto_region 6 with fail
   have Lkp1 := lt_size kp1
   have Lkp2 := lt_size kp2
   have Lkg := lt_size kg
   refine wp_pass0 (C := fun _ _ _ => False) (κ := fun i => [0, 0, 1, 3, 0, 4].getD i 0) [0, 1, 2, 3, 4, 5] (by kernel_rfl) (by kernel_rfl) (fun _ _ d _ _ h => by cases d <;> first | exact h | exact absurd h (hP _ _ _)) ?_
   (refine TD.val0 (v := ?v47) (by simp only [zK]; rfl) rfl (by rfl) (fun w1 => ?y47) ?n47; (case y47 => go_simp; try with_reducible rfl); try simp only [Act.put, zL])
   (refine TD.val0 (v := ?v48) (by simp only [zK]; rfl) rfl (by rfl) (fun w1 => ?y48) ?n48; (case y48 => go_simp; try with_reducible rfl); try simp only [Act.put, zL])
   (refine TD.load (v := ?v49) (p := ?p49) (Mod.refl _ _) (by simp only [zK]; rfl) rfl (by rfl) rfl ?hx49 (fun wq hSq => ?y49) ?n49; (case hx49 => simp only [Act.eval, zM]; try rfl); (case y49 => (have kp1q := hSq.at kp1 (fun h => h); have kp2q := hSq.at kp2 (fun h => h); have kgq := hSq.at kg (fun h => h); go_simp; (try with_reducible rfl))); try simp only [Act.put, zL])
   (refine TD.allocB (by simp only [zK]; rfl) rfl (by rfl) rfl rfl alIn (fun p5 hp5 => ?n50); try simp only [Act.put, zL])
   (refine TD.val0 (v := ?v51) (by simp only [zK]; rfl) rfl (by rfl) (fun w1 => ?y51) ?n51; (case y51 => go_simp; try with_reducible rfl); try simp only [Act.put, zL])
   (refine TD.storeB (d := ?d52) (T := ?T52) (y := ?y52) (p := ?p52) (b := ?b52) (v := ?v52) (by simp only [zK]; rfl) rfl (by rfl) ?hd52 ?hop52 ?hev52 ?hx52 ?hb52 ?htag52 (fun w1 hb1 => ?hy52) ?hn52; (case hd52 => rfl); (case hop52 => rfl); (case hev52 => (simp only [Act.eval, zM]; (try rfl))); (case hx52 => simp only [Act.eval, zM]; try rfl); (case hb52 => first | exact Bx.set_same _ _ _ | (simp only [Bx.set_same]; rfl)); (case hy52 => (go_simp; (try first | with_reducible rfl | (rw [setCell_blk hb1]; rfl)))); try simp only [Act.put, zL])
   refine TD.nil (fun w6 hr => ?_)
   have kp1 := hr.mod.at kp1 (fun h => h)
   have kp2 := hr.mod.at kp2 (fun h => h)
   have kg := hr.mod.at kg (fun h => h)
   have kp5 := hr.box p5 _ (by first | exact Bx.set_same _ _ _ | (simp only [Bx.set_same]; rfl)); dsimp only [Value.cells] at kp5; obtain ⟨gp5, kp5⟩ := kp5
   have mA := hr.mod
   clear hr
   go_upto_region 7 with fail
   have kgA := kg
   have Lkp1 := lt_size kp1
   have Lkp2 := lt_size kp2
   have Lkg := lt_size kg
   have Lkp5 := lt_size kp5
   refine wp_region_any (by kernel_rfl) ?_
   change wpAny _ .any _ _ 22 _ _ _
   (refine take_first (i := 9) (v := ?v53) (by simp only [zK]; rfl) (by kernel_rfl) (fun _ _ d _ _ h => by cases d <;> first | exact h | exact absurd h (hP _ _ _)) ?hw53 (fun w1 => ?y53) ?n53; (case hw53 => rfl); (case y53 => go_simp; try with_reducible rfl); try simp only [Act.put, zL])
   refine e_anyL (T0 := fun _ => False) (K := fun _ _ => True) (κ := fun i => [0, 0, 0, 0, 0, 0, 0, 0, 0, 0, 0, 0, 6, 0, 0, 6, 0, 0, 6, 0, 0, 6].getD i 0) (υ := fun i => [[], [], [], [], [], [], [], [], [], [], [], [], [], [], [], [], [], [], [], [], [], []].getD i []) (fun _ _ d _ _ h => by cases d <;> first | exact h | exact absurd h (hP _ _ _)) [0, 1, 2, 3, 4, 5, 6, 7, 8, 10, 11, 12, 13, 14, 15, 16, 17] [18, 19, 20, 21] (by kernel_rfl) (Good.true).cl (rg_drew (Good.true).cl (trivial) (fun _ h => h.elim)) ?_
   have gK := Good.true
   (refine TG.v0 (v := ?v54) (by simp only [zK]; rfl) rfl (by rfl) (fun w1 => ?y54) ?n54; (case y54 => go_simp; try with_reducible rfl); try simp only [Act.put, zL])
   (refine TG.v0 (v := ?v55) (by simp only [zK]; rfl) rfl (by rfl) (fun w1 => ?y55) ?n55; (case y55 => go_simp; try with_reducible rfl); try simp only [Act.put, zL])
   (refine TG.v0 (v := ?v56) (by simp only [zK]; rfl) rfl (by rfl) (fun w1 => ?y56) ?n56; (case y56 => go_simp; try with_reducible rfl); try simp only [Act.put, zL])
   (refine TG.load (v := ?v57) (p := ?p57) (by simp only [zK]; rfl) rfl (by rfl) rfl ?hx57 (fun wq hSq => ?y57) ?n57; (case hx57 => simp only [Act.eval, zM]; try rfl); (case y57 => (have kp1q := hSq.at kp1 (fun h => h); have kp2q := hSq.at kp2 (fun h => h); have kgq := hSq.at kg (fun h => h); have kp5q := hSq.at kp5 (fun h => h); go_simp; (try with_reducible rfl))); try simp only [Act.put, zL])
   (refine TG.v0 (v := ?v58) (by simp only [zK]; rfl) rfl (by rfl) (fun w1 => ?y58) ?n58; (case y58 => go_simp; try with_reducible rfl); try simp only [Act.put, zL])
   (refine TG.v0 (v := ?v59) (by simp only [zK]; rfl) rfl (by rfl) (fun w1 => ?y59) ?n59; (case y59 => go_simp; try with_reducible rfl); try simp only [Act.put, zL])
   (refine TG.v0 (v := ?v60) (by simp only [zK]; rfl) rfl (by rfl) (fun w1 => ?y60) ?n60; (case y60 => go_simp; try with_reducible rfl); try simp only [Act.put, zL])
   (refine TG.v0 (v := ?v61) (by simp only [zK]; rfl) rfl (by rfl) (fun w1 => ?y61) ?n61; (case y61 => go_simp; try with_reducible rfl); try simp only [Act.put, zL])
   (refine TG.load (v := ?v62) (p := ?p62) (by simp only [zK]; rfl) rfl (by rfl) rfl ?hx62 (fun wq hSq => ?y62) ?n62; (case hx62 => simp only [Act.eval, zM]; try rfl); (case y62 => (have kp1q := hSq.at kp1 (fun h => h); have kp2q := hSq.at kp2 (fun h => h); have kgq := hSq.at kg (fun h => h); have kp5q := hSq.at kp5 (fun h => h); go_simp; (try with_reducible rfl))); try simp only [Act.put, zL])
   (refine TG.v0 (v := ?v63) (by simp only [zK]; rfl) rfl (by rfl) (fun w1 => ?y63) ?n63; (case y63 => go_simp; try with_reducible rfl); try simp only [Act.put, zL])
   (refine TG.load (v := ?v64) (p := ?p64) (by simp only [zK]; rfl) rfl (by rfl) rfl ?hx64 (fun wq hSq => ?y64) ?n64; (case hx64 => simp only [Act.eval, zM]; try rfl); (case y64 => (have kp1q := hSq.at kp1 (fun h => h); have kp2q := hSq.at kp2 (fun h => h); have kgq := hSq.at kg (fun h => h); have kp5q := hSq.at kp5 (fun h => h); go_simp; (try with_reducible rfl))); try simp only [Act.put, zL])
   (refine TG.callM (f := ?f65) (args := ?r65) (NewL uc 1 5 w.heap.size z.a.l) (goodN uc 1 5 w.heap.size z.a.l) gK (by simp only [zK]; rfl) rfl (by rfl) (fun w1 => ?y65) (fun T wq kq ltq hSq ub => ?hsp65) ?n65; (case y65 => (go_simp; (first | with_reducible rfl | (constructor <;> with_reducible rfl)))); (case hsp65 => (have kp1q := hSq.at kp1 (fun h => h); have kp2q := hSq.at kp2 (fun h => h); have kgq := hSq.at kg (fun h => h); have kp5q := hSq.at kp5 (fun h => h); exact (ownB_c (c := z.a.c) (HZ.out.2.2.2.2.2.1.1.mod0 ((hm0.then0 mA).then0 hSq)) HZ.out.2.2.2.2.2.2.1.1).mono (fun e w' h => by obtain ⟨v, h1, h2, h3⟩ := h; exact ⟨v, h1, h3, newL h2 ((hm0.then0 mA).then0 hSq).size⟩))); rintro v65 ⟨wI, TI, hI⟩; replace gK := gK.and ((goodN uc 1 5 w.heap.size z.a.l) v65); skip; (try clear hI TI wI); try simp only [Act.put, zL])
   (refine TG.v0 (v := ?v66) (by simp only [zK]; rfl) rfl (by rfl) (fun w1 => ?y66) ?n66; (case y66 => go_simp; try with_reducible rfl); try simp only [Act.put, zL])
   (refine TG.load (v := ?v67) (p := ?p67) (by simp only [zK]; rfl) rfl (by rfl) rfl ?hx67 (fun wq hSq => ?y67) ?n67; (case hx67 => simp only [Act.eval, zM]; try rfl); (case y67 => (have kp1q := hSq.at kp1 (fun h => h); have kp2q := hSq.at kp2 (fun h => h); have kgq := hSq.at kg (fun h => h); have kp5q := hSq.at kp5 (fun h => h); go_simp; (try with_reducible rfl))); try simp only [Act.put, zL])
   (refine TG.callM (f := ?f68) (args := ?r68) (NewL uc 1 5 w.heap.size z.d.l) (goodN uc 1 5 w.heap.size z.d.l) gK (by simp only [zK]; rfl) rfl (by rfl) (fun w1 => ?y68) (fun T wq kq ltq hSq ub => ?hsp68) ?n68; (case y68 => (go_simp; (first | with_reducible rfl | (constructor <;> with_reducible rfl)))); (case hsp68 => (have kp1q := hSq.at kp1 (fun h => h); have kp2q := hSq.at kp2 (fun h => h); have kgq := hSq.at kg (fun h => h); have kp5q := hSq.at kp5 (fun h => h); exact (ownB_c (c := z.d.c) (HZ.out.2.2.2.2.2.1.2.mod0 ((hm0.then0 mA).then0 hSq)) HZ.out.2.2.2.2.2.2.1.2).mono (fun e w' h => by obtain ⟨v, h1, h2, h3⟩ := h; exact ⟨v, h1, h3, newL h2 ((hm0.then0 mA).then0 hSq).size⟩))); rintro v68 ⟨wI, TI, hI⟩; replace gK := gK.and ((goodN uc 1 5 w.heap.size z.d.l) v68); skip; (try clear hI TI wI); try simp only [Act.put, zL])
   (refine TG.v0 (v := ?v69) (by simp only [zK]; rfl) rfl (by rfl) (fun w1 => ?y69) ?n69; (case y69 => go_simp; try with_reducible rfl); try simp only [Act.put, zL])
   (refine TG.v0 (v := ?v70) (by simp only [zK]; rfl) rfl (by rfl) (fun w1 => ?y70) ?n70; (case y70 => go_simp; try with_reducible rfl); try simp only [Act.put, zL])
   refine TG.nil (fun w7 ⟨TR, hr⟩ => ?_)
   have kp1 := hr.mod.at kp1 (fun h => h)
   have kp2 := hr.mod.at kp2 (fun h => h)
   have kg := hr.mod.at kg (fun h => h)
   have kp5 := hr.mod.at kp5 (fun h => h)
   clear gK
   obtain ⟨⟨_, hNa, hTa⟩, hNb, hTb⟩ := hr.k
   have hgT : ∀ g', TR g' → g' ≠ g := fun g' hg e => (hr.old g (lt_size kgA) (e ▸ hg)).elim
   have mB := mA.then0 hr.mod
   have kgB := kg
   obtain ⟨aa, ea, _⟩ := hNa.at
   obtain ⟨ab, eb, _⟩ := hNb.at
   subst ea
   subst eb
   have HN := Lib.hid (And.intro hNa (And.intro hTa (And.intro hNb (And.intro hTb hgT))))
   clear hr hNa hTa hNb hTb hgT
   refine TE.step (by simp only [zK]; rfl) rfl ?_
   (refine eff_store (X := ?X71) (Y := ?Y71) (w' := ?w71) (by simp only [zK]; rfl) (by rfl) rfl ?hx71 ?hz71 ?y71 ?n71; (case hx71 => simp only [Act.eval, zM]; try rfl); (case hz71 => simp only [Act.eval, zM]; try rfl); (case y71 => go_simp; try with_reducible rfl))
   (first | refine TE.mid_set kg (fun wn kg mS => ?_) | refine TE.mid_setCell kg (fun wn kg mS => ?_))
   replace kp1 := mS.at_ne kp1 (Ne.symm hgp1)
   replace kp2 := mS.at_ne kp2 (Ne.symm hgp2)
   have mp := mS
   clear mS
   (refine TE.val0 (v := ?v72) (by simp only [zK]; rfl) (by rfl) (fun w1 => ?y72) ?n72; (case y72 => go_simp; try with_reducible rfl); try simp only [Act.put, zL])
   (refine TE.val0 (v := ?v73) (by simp only [zK]; rfl) (by rfl) (fun w1 => ?y73) ?n73; (case y73 => go_simp; try with_reducible rfl); try simp only [Act.put, zL])
   refine TE.step (by simp only [zK]; rfl) rfl ?_
   (refine eff_store (X := ?X74) (Y := ?Y74) (w' := ?w74) (by simp only [zK]; rfl) (by rfl) rfl ?hx74 ?hz74 ?y74 ?n74; (case hx74 => simp only [Act.eval, zM]; try rfl); (case hz74 => simp only [Act.eval, zM]; try rfl); (case y74 => go_simp; try with_reducible rfl))
   (first | refine TE.nil_set kg (fun wn kg mS => ?_) | refine TE.nil_setCell kg (fun wn kg mS => ?_))
   replace kp1 := mS.at_ne kp1 (Ne.symm hgp1)
   replace kp2 := mS.at_ne kp2 (Ne.symm hgp2)
   have mq := mp.trans mS
   clear mS
   have HPN : Hid (LpI w.heap.size wn (.slice a26 l26 l26) x.ins.l (L.set i ⟨z.p, ⟨aa, z.a.l, z.a.l.length⟩, ⟨ab, z.d.l, z.d.l.length⟩⟩) (i + 1)) := Lib.hid (by
    obtain ⟨hz, hLz, hLlen, hgb, hrow, _, _, hv⟩ := HZ.out
    obtain ⟨hNa, hTa, hNb, hTb, hgT⟩ := HN.out
    have hiL : i < L.length := by rw [hLlen]; exact hlt
    refine ⟨by rw [List.length_set]; exact HP.out.len, .inr ⟨g, _, by rw [List.length_set, hLlen, hv], hgb, kg, ?_⟩, fun j y z' hj hy hz' => ?_, fun j hj => ?_⟩
    ·exact rows_set2 inr_size hrow hLz (by omega) (by omega) (inr_set z ⟨aa, z.a.l, z.a.l.length⟩ ⟨ab, z.d.l, z.d.l.length⟩)
    ·by_cases hji : j = i
     ·subst hji
      rw [List.getElem?_set_self hiL] at hy
      rw [hz] at hz'
      cases hy
      cases hz'
      exact ⟨rfl, hNa.mod mq (fun g' hg' => hgT g' (hTa g' hg')), hNb.mod mq (fun g' hg' => hgT g' (hTb g' hg'))⟩
     ·rw [List.getElem?_set_ne (fun e => hji e.symm)] at hy
      refine ((HP.out.done j y z' (by omega) hy hz').mod mB (fun _ _ _ h => h)).mod mq (fun g' c k e => ?_)
      subst e
      rw [kgB] at k
      injection k with k
      injection k with _ k
      exact absurd k (by decide)
    ·rw [List.getElem?_set_ne (by omega)]
     exact HP.out.rest j (by omega))
   have hmN : Mod (fun b => (Value.slice a26 l26 l26).ownBlock = some b) w5 wn := (hmL.then0 mB).then mq (fun b _ e => by
    subst e
    rw [hv]
    rfl)
   have hm0N : Mod (fun _ => False) w wn := (hm0.then0 mB).thenB mq (.inl HZ.out.2.2.2.1)
   have HQ := Lib.hid (And.intro hv (And.intro kp1 (And.intro kp2 (And.intro hmN hm0N))))
   clear hv kp1 kp2 hmN hm0N
   have hms : l26 - (i + 1) < l26 - i := by omega
   have HIi := Lib.hid (show (i : Int) + 1 = ((i + 1 : Nat) : Int) by omega)
   have HMs := Lib.hid hms
   clear hms
   go_wp2_with fail
   go_roundw
   case rel => exact ⟨i + 1, _, hlt, by go_num, HPN, HQ.out.2.2.2.1, HQ.out.2.2.2.2, HQ.out.2.1, HQ.out.2.2.1⟩
   case measure => simp [intOf]; omega
  ·have hie : i = l26 := by omega
   have hpf : ∀ j : Nat, i = j → Hid (LpI w.heap.size wr (.slice a26 l26 l26) x.ins.l L j) := fun j e => by
    subst e
    exact HP
   have HPF := hpf _ hie
   clear hpf
   clear HP
   have HG : Hid (NewS uc 1 5 w.heap.size wr (.slice a5 lb lb) x.b.l ∧ NewS rcr 34 91 w.heap.size wr (.slice a8 lr lr) x.ro.l ∧ NewS sgc 64 134 w.heap.size wr (.slice a16 l16 l16) x.sg.l ∧ NewS kc 32 89 w.heap.size wr (.slice a21 l21 l21) x.ks.l ∧ NewS lor 34 141 w.heap.size wr (.slice a31 l31 l31) x.lks.l) := Lib.hid (by
    obtain ⟨f1, f2, f3, f4, f5⟩ := HF.out
    have h0 := HI0.out.rows
    exact ⟨f1.other h0 (by decide) hmL, f2.other h0 (by decide) hmL, f3.other h0 (by decide) hmL, f4.other h0 (by decide) hmL, f5.other h0 (by decide) hmL⟩)
   have HJ0 : Hid (LpL w.heap.size wr (.slice a31 l31 l31) x.lks.l x.lks.l 0) := Lib.hid ⟨rfl, HG.out.2.2.2.2, fun j y z hj => by omega, fun _ _ => rfl⟩
   have m5 := hm0
   obtain ⟨LI, hLI⟩ : ∃ LI, LI = L := ⟨_, rfl⟩
   subst hLI
   have HPI := HPF
   clear HPF
   obtain ⟨wb, rfl⟩ : ∃ wb : World, wb = wr := ⟨_, rfl⟩
   clear hm0 hmL
   go_wp2_with fail
   clear hie hi hlt
   go_loopw [84, 6, 7] (fun s84 s6 s7 ws => ∃ (i : Nat) (L : List LoR), i ≤ l31 ∧ s84 = .int .i64 (i : Int) ∧ Hid (LpL w.heap.size ws (.slice a31 l31 l31) x.lks.l L i) ∧ Mod (fun b => (Value.slice a31 l31 l31).ownBlock = some b) wb ws ∧ Mod (fun _ => False) w ws ∧ ws.heap[p1]? = some (.cells (rdr y2) 57 (0, 0)) ∧ ws.heap[p2]? = some (.cells zRdy 57 (0, 0))) (fun s84 _ _ _ => l31 - (intOf s84).toNat)
   case atStart => exact ⟨0, x.lks.l, by omega, rfl, HJ0, Mod.refl _ _, m5, kp1, kp2⟩
   case round =>
    obtain ⟨i, L, hi, rfl, HP, hmL, hm0, kp1, kp2⟩ := hrel
    by_cases hlt : i < l31
    ·obtain ⟨z, hz⟩ : ∃ z, x.lks.l[i]? = some z := ⟨_, List.getElem?_eq_getElem (by have := HLL.out; omega)⟩
     have hLz : L[i]? = some z := by rw [HP.out.rest i (Nat.le_refl _), hz]
     have hLlen : L.length = l31 := by rw [HP.out.len]; have := HLL.out; omega
     obtain ⟨g, cur, hv, hgb, kg, hrow⟩ : ∃ g cur, Value.slice a31 l31 l31 = .slice (some ⟨g, 0, none⟩) l31 l31 ∧ w.heap.size ≤ g ∧ wr.heap[g]? = some (.cells cur 141 (0, 0)) ∧ ∀ (j : Nat) y, L[j]? = some y → cur.extract (j * 34) (j * 34 + 34) = lor y ∧ j * 34 + 34 ≤ cur.size := by
      rcases HP.out.rows with ⟨_, h⟩ | ⟨g, cur, h1, h2, h3, h4⟩
      ·rw [h] at hLz; cases hLz
      ·rw [hLlen] at h1
       exact ⟨g, cur, h1, h2, h3, h4⟩
     injection hv with hv _ _
     obtain ⟨he, hle⟩ := hrow i z hLz
     have hgp1 : g ≠ p1 := ne_of_obj kg kp1 (obj_ty (by decide))
     have hgp2 : g ≠ p2 := ne_of_obj kg kp2 (obj_ty (by decide))
     have hzm : z ∈ x.lks.l := List.mem_of_getElem? hz
     have hzb := HX.out.1.lksB z hzm
     have hzl : z.w.l.length ≤ 1000000 ∧ z.r.l.length ≤ 1000000 := HX.out.2.lksB z.con (by show _ ∈ x.lks.l.map _; exact List.mem_map.2 ⟨z, hzm, rfl⟩)
     have hc1 : cur[i * 34 + 32]? = some (.slice z.w.a z.w.l.length z.w.c) := cellC he (j := 32) (lor1 z)
     have hc2 : cur[i * 34 + 33]? = some (.slice z.r.a z.r.l.length z.r.c) := cellC he (j := 33) (lor2 z)
     have HZ := Lib.hid (And.intro hz (And.intro hLz (And.intro hLlen (And.intro hgb (And.intro hrow (And.intro hzb (And.intro hzl hv)))))))
     obtain ⟨wa, rfl⟩ : ∃ wa : World, wa = wr := ⟨_, rfl⟩
     have hlenE := HLL.out
     clear hrow hzb hzl hz hLz hLlen
     go_upto_region 11 with fail
     have Lkp1 := lt_size kp1
     have Lkp2 := lt_size kp2
     have Lkg := lt_size kg
     refine wp_pass0 (C := fun _ _ _ => False) (κ := fun i => [0, 0, 1, 3, 0, 4].getD i 0) [0, 1, 2, 3, 4, 5] (by kernel_rfl) (by kernel_rfl) (fun _ _ d _ _ h => by cases d <;> first | exact h | exact absurd h (hP _ _ _)) ?_
     (refine TD.val0 (v := ?v75) (by simp only [zK]; rfl) rfl (by rfl) (fun w1 => ?y75) ?n75; (case y75 => go_simp; try with_reducible rfl); try simp only [Act.put, zL])
     (refine TD.val0 (v := ?v76) (by simp only [zK]; rfl) rfl (by rfl) (fun w1 => ?y76) ?n76; (case y76 => go_simp; try with_reducible rfl); try simp only [Act.put, zL])
     (refine TD.load (v := ?v77) (p := ?p77) (Mod.refl _ _) (by simp only [zK]; rfl) rfl (by rfl) rfl ?hx77 (fun wq hSq => ?y77) ?n77; (case hx77 => simp only [Act.eval, zM]; try rfl); (case y77 => (have kp1q := hSq.at kp1 (fun h => h); have kp2q := hSq.at kp2 (fun h => h); have kgq := hSq.at kg (fun h => h); go_simp; (try with_reducible rfl))); try simp only [Act.put, zL])
     (refine TD.allocB (by simp only [zK]; rfl) rfl (by rfl) rfl rfl alLo (fun p7 hp7 => ?n78); try simp only [Act.put, zL])
     (refine TD.val0 (v := ?v79) (by simp only [zK]; rfl) rfl (by rfl) (fun w1 => ?y79) ?n79; (case y79 => go_simp; try with_reducible rfl); try simp only [Act.put, zL])
     (refine TD.storeB (d := ?d80) (T := ?T80) (y := ?y80) (p := ?p80) (b := ?b80) (v := ?v80) (by simp only [zK]; rfl) rfl (by rfl) ?hd80 ?hop80 ?hev80 ?hx80 ?hb80 ?htag80 (fun w1 hb1 => ?hy80) ?hn80; (case hd80 => rfl); (case hop80 => rfl); (case hev80 => (simp only [Act.eval, zM]; (try rfl))); (case hx80 => simp only [Act.eval, zM]; try rfl); (case hb80 => first | exact Bx.set_same _ _ _ | (simp only [Bx.set_same]; rfl)); (case hy80 => (go_simp; (try first | with_reducible rfl | (rw [setCell_blk hb1]; rfl)))); try simp only [Act.put, zL])
     refine TD.nil (fun w6 hr => ?_)
     have kp1 := hr.mod.at kp1 (fun h => h)
     have kp2 := hr.mod.at kp2 (fun h => h)
     have kg := hr.mod.at kg (fun h => h)
     have kp7 := hr.box p7 _ (by first | exact Bx.set_same _ _ _ | (simp only [Bx.set_same]; rfl)); dsimp only [Value.cells] at kp7; obtain ⟨gp7, kp7⟩ := kp7
     have mA := hr.mod
     clear hr
     go_upto_region 12 with fail
     have kgA := kg
     have Lkp1 := lt_size kp1
     have Lkp2 := lt_size kp2
     have Lkg := lt_size kg
     have Lkp7 := lt_size kp7
     refine wp_region_any (by kernel_rfl) ?_
     change wpAny _ .any _ _ 22 _ _ _
     (refine take_first (i := 9) (v := ?v81) (by simp only [zK]; rfl) (by kernel_rfl) (fun _ _ d _ _ h => by cases d <;> first | exact h | exact absurd h (hP _ _ _)) ?hw81 (fun w1 => ?y81) ?n81; (case hw81 => rfl); (case y81 => go_simp; try with_reducible rfl); try simp only [Act.put, zL])
     refine e_anyL (T0 := fun _ => False) (K := fun _ _ => True) (κ := fun i => [0, 0, 0, 0, 0, 0, 0, 0, 0, 0, 0, 0, 6, 0, 0, 6, 0, 0, 6, 0, 0, 6].getD i 0) (υ := fun i => [[], [], [], [], [], [], [], [], [], [], [], [], [], [], [], [], [], [], [], [], [], []].getD i []) (fun _ _ d _ _ h => by cases d <;> first | exact h | exact absurd h (hP _ _ _)) [0, 1, 2, 3, 4, 5, 6, 7, 8, 10, 11, 12, 13, 14, 15, 16, 17] [18, 19, 20, 21] (by kernel_rfl) (Good.true).cl (rg_drew (Good.true).cl (trivial) (fun _ h => h.elim)) ?_
     have gK := Good.true
     (refine TG.v0 (v := ?v82) (by simp only [zK]; rfl) rfl (by rfl) (fun w1 => ?y82) ?n82; (case y82 => go_simp; try with_reducible rfl); try simp only [Act.put, zL])
     (refine TG.v0 (v := ?v83) (by simp only [zK]; rfl) rfl (by rfl) (fun w1 => ?y83) ?n83; (case y83 => go_simp; try with_reducible rfl); try simp only [Act.put, zL])
     (refine TG.v0 (v := ?v84) (by simp only [zK]; rfl) rfl (by rfl) (fun w1 => ?y84) ?n84; (case y84 => go_simp; try with_reducible rfl); try simp only [Act.put, zL])
     (refine TG.load (v := ?v85) (p := ?p85) (by simp only [zK]; rfl) rfl (by rfl) rfl ?hx85 (fun wq hSq => ?y85) ?n85; (case hx85 => simp only [Act.eval, zM]; try rfl); (case y85 => (have kp1q := hSq.at kp1 (fun h => h); have kp2q := hSq.at kp2 (fun h => h); have kgq := hSq.at kg (fun h => h); have kp7q := hSq.at kp7 (fun h => h); go_simp; (try with_reducible rfl))); try simp only [Act.put, zL])
     (refine TG.v0 (v := ?v86) (by simp only [zK]; rfl) rfl (by rfl) (fun w1 => ?y86) ?n86; (case y86 => go_simp; try with_reducible rfl); try simp only [Act.put, zL])
     (refine TG.v0 (v := ?v87) (by simp only [zK]; rfl) rfl (by rfl) (fun w1 => ?y87) ?n87; (case y87 => go_simp; try with_reducible rfl); try simp only [Act.put, zL])
     (refine TG.v0 (v := ?v88) (by simp only [zK]; rfl) rfl (by rfl) (fun w1 => ?y88) ?n88; (case y88 => go_simp; try with_reducible rfl); try simp only [Act.put, zL])
     (refine TG.v0 (v := ?v89) (by simp only [zK]; rfl) rfl (by rfl) (fun w1 => ?y89) ?n89; (case y89 => go_simp; try with_reducible rfl); try simp only [Act.put, zL])
     (refine TG.load (v := ?v90) (p := ?p90) (by simp only [zK]; rfl) rfl (by rfl) rfl ?hx90 (fun wq hSq => ?y90) ?n90; (case hx90 => simp only [Act.eval, zM]; try rfl); (case y90 => (have kp1q := hSq.at kp1 (fun h => h); have kp2q := hSq.at kp2 (fun h => h); have kgq := hSq.at kg (fun h => h); have kp7q := hSq.at kp7 (fun h => h); go_simp; (try with_reducible rfl))); try simp only [Act.put, zL])
     (refine TG.v0 (v := ?v91) (by simp only [zK]; rfl) rfl (by rfl) (fun w1 => ?y91) ?n91; (case y91 => go_simp; try with_reducible rfl); try simp only [Act.put, zL])
     (refine TG.load (v := ?v92) (p := ?p92) (by simp only [zK]; rfl) rfl (by rfl) rfl ?hx92 (fun wq hSq => ?y92) ?n92; (case hx92 => simp only [Act.eval, zM]; try rfl); (case y92 => (have kp1q := hSq.at kp1 (fun h => h); have kp2q := hSq.at kp2 (fun h => h); have kgq := hSq.at kg (fun h => h); have kp7q := hSq.at kp7 (fun h => h); go_simp; (try with_reducible rfl))); try simp only [Act.put, zL])
     (refine TG.callM (f := ?f93) (args := ?r93) (NewL uc 1 5 w.heap.size z.w.l) (goodN uc 1 5 w.heap.size z.w.l) gK (by simp only [zK]; rfl) rfl (by rfl) (fun w1 => ?y93) (fun T wq kq ltq hSq ub => ?hsp93) ?n93; (case y93 => (go_simp; (first | with_reducible rfl | (constructor <;> with_reducible rfl)))); (case hsp93 => (have kp1q := hSq.at kp1 (fun h => h); have kp2q := hSq.at kp2 (fun h => h); have kgq := hSq.at kg (fun h => h); have kp7q := hSq.at kp7 (fun h => h); exact (ownB_c (c := z.w.c) (HZ.out.2.2.2.2.2.1.1.mod0 ((hm0.then0 mA).then0 hSq)) HZ.out.2.2.2.2.2.2.1.1).mono (fun e w' h => by obtain ⟨v, h1, h2, h3⟩ := h; exact ⟨v, h1, h3, newL h2 ((hm0.then0 mA).then0 hSq).size⟩))); rintro v93 ⟨wI, TI, hI⟩; replace gK := gK.and ((goodN uc 1 5 w.heap.size z.w.l) v93); skip; (try clear hI TI wI); try simp only [Act.put, zL])
     (refine TG.v0 (v := ?v94) (by simp only [zK]; rfl) rfl (by rfl) (fun w1 => ?y94) ?n94; (case y94 => go_simp; try with_reducible rfl); try simp only [Act.put, zL])
     (refine TG.load (v := ?v95) (p := ?p95) (by simp only [zK]; rfl) rfl (by rfl) rfl ?hx95 (fun wq hSq => ?y95) ?n95; (case hx95 => simp only [Act.eval, zM]; try rfl); (case y95 => (have kp1q := hSq.at kp1 (fun h => h); have kp2q := hSq.at kp2 (fun h => h); have kgq := hSq.at kg (fun h => h); have kp7q := hSq.at kp7 (fun h => h); go_simp; (try with_reducible rfl))); try simp only [Act.put, zL])
     (refine TG.callM (f := ?f96) (args := ?r96) (NewL uc 1 5 w.heap.size z.r.l) (goodN uc 1 5 w.heap.size z.r.l) gK (by simp only [zK]; rfl) rfl (by rfl) (fun w1 => ?y96) (fun T wq kq ltq hSq ub => ?hsp96) ?n96; (case y96 => (go_simp; (first | with_reducible rfl | (constructor <;> with_reducible rfl)))); (case hsp96 => (have kp1q := hSq.at kp1 (fun h => h); have kp2q := hSq.at kp2 (fun h => h); have kgq := hSq.at kg (fun h => h); have kp7q := hSq.at kp7 (fun h => h); exact (ownB_c (c := z.r.c) (HZ.out.2.2.2.2.2.1.2.mod0 ((hm0.then0 mA).then0 hSq)) HZ.out.2.2.2.2.2.2.1.2).mono (fun e w' h => by obtain ⟨v, h1, h2, h3⟩ := h; exact ⟨v, h1, h3, newL h2 ((hm0.then0 mA).then0 hSq).size⟩))); rintro v96 ⟨wI, TI, hI⟩; replace gK := gK.and ((goodN uc 1 5 w.heap.size z.r.l) v96); skip; (try clear hI TI wI); try simp only [Act.put, zL])
     (refine TG.v0 (v := ?v97) (by simp only [zK]; rfl) rfl (by rfl) (fun w1 => ?y97) ?n97; (case y97 => go_simp; try with_reducible rfl); try simp only [Act.put, zL])
     (refine TG.v0 (v := ?v98) (by simp only [zK]; rfl) rfl (by rfl) (fun w1 => ?y98) ?n98; (case y98 => go_simp; try with_reducible rfl); try simp only [Act.put, zL])
     refine TG.nil (fun w7 ⟨TR, hr⟩ => ?_)
     have kp1 := hr.mod.at kp1 (fun h => h)
     have kp2 := hr.mod.at kp2 (fun h => h)
     have kg := hr.mod.at kg (fun h => h)
     have kp7 := hr.mod.at kp7 (fun h => h)
     clear gK
     obtain ⟨⟨_, hNa, hTa⟩, hNb, hTb⟩ := hr.k
     have hgT : ∀ g', TR g' → g' ≠ g := fun g' hg e => (hr.old g (lt_size kgA) (e ▸ hg)).elim
     have mB := mA.then0 hr.mod
     have kgB := kg
     obtain ⟨aa, ea, _⟩ := hNa.at
     obtain ⟨ab, eb, _⟩ := hNb.at
     subst ea
     subst eb
     have HN := Lib.hid (And.intro hNa (And.intro hTa (And.intro hNb (And.intro hTb hgT))))
     clear hr hNa hTa hNb hTb hgT
     refine TE.step (by simp only [zK]; rfl) rfl ?_
     (refine eff_store (X := ?X99) (Y := ?Y99) (w' := ?w99) (by simp only [zK]; rfl) (by rfl) rfl ?hx99 ?hz99 ?y99 ?n99; (case hx99 => simp only [Act.eval, zM]; try rfl); (case hz99 => simp only [Act.eval, zM]; try rfl); (case y99 => go_simp; try with_reducible rfl))
     (first | refine TE.mid_set kg (fun wn kg mS => ?_) | refine TE.mid_setCell kg (fun wn kg mS => ?_))
     replace kp1 := mS.at_ne kp1 (Ne.symm hgp1)
     replace kp2 := mS.at_ne kp2 (Ne.symm hgp2)
     have mp := mS
     clear mS
     (refine TE.val0 (v := ?v100) (by simp only [zK]; rfl) (by rfl) (fun w1 => ?y100) ?n100; (case y100 => go_simp; try with_reducible rfl); try simp only [Act.put, zL])
     (refine TE.val0 (v := ?v101) (by simp only [zK]; rfl) (by rfl) (fun w1 => ?y101) ?n101; (case y101 => go_simp; try with_reducible rfl); try simp only [Act.put, zL])
     refine TE.step (by simp only [zK]; rfl) rfl ?_
     (refine eff_store (X := ?X102) (Y := ?Y102) (w' := ?w102) (by simp only [zK]; rfl) (by rfl) rfl ?hx102 ?hz102 ?y102 ?n102; (case hx102 => simp only [Act.eval, zM]; try rfl); (case hz102 => simp only [Act.eval, zM]; try rfl); (case y102 => go_simp; try with_reducible rfl))
     (first | refine TE.nil_set kg (fun wn kg mS => ?_) | refine TE.nil_setCell kg (fun wn kg mS => ?_))
     replace kp1 := mS.at_ne kp1 (Ne.symm hgp1)
     replace kp2 := mS.at_ne kp2 (Ne.symm hgp2)
     have mq := mp.trans mS
     clear mS
     have HPN : Hid (LpL w.heap.size wn (.slice a31 l31 l31) x.lks.l (L.set i ⟨z.t, ⟨aa, z.w.l, z.w.l.length⟩, ⟨ab, z.r.l, z.r.l.length⟩⟩) (i + 1)) := Lib.hid (by
      obtain ⟨hz, hLz, hLlen, hgb, hrow, _, _, hv⟩ := HZ.out
      obtain ⟨hNa, hTa, hNb, hTb, hgT⟩ := HN.out
      have hiL : i < L.length := by rw [hLlen]; exact hlt
      refine ⟨by rw [List.length_set]; exact HP.out.len, .inr ⟨g, _, by rw [List.length_set, hLlen, hv], hgb, kg, ?_⟩, fun j y z' hj hy hz' => ?_, fun j hj => ?_⟩
      ·exact rows_set2 lor_size hrow hLz (by omega) (by omega) (lor_set z ⟨aa, z.w.l, z.w.l.length⟩ ⟨ab, z.r.l, z.r.l.length⟩)
      ·by_cases hji : j = i
       ·subst hji
        rw [List.getElem?_set_self hiL] at hy
        rw [hz] at hz'
        cases hy
        cases hz'
        exact ⟨rfl, hNa.mod mq (fun g' hg' => hgT g' (hTa g' hg')), hNb.mod mq (fun g' hg' => hgT g' (hTb g' hg'))⟩
       ·rw [List.getElem?_set_ne (fun e => hji e.symm)] at hy
        refine ((HP.out.done j y z' (by omega) hy hz').mod mB (fun _ _ _ h => h)).mod mq (fun g' c k e => ?_)
        subst e
        rw [kgB] at k
        injection k with k
        injection k with _ k
        exact absurd k (by decide)
      ·rw [List.getElem?_set_ne (by omega)]
       exact HP.out.rest j (by omega))
     have hmN : Mod (fun b => (Value.slice a31 l31 l31).ownBlock = some b) wb wn := (hmL.then0 mB).then mq (fun b _ e => by
      subst e
      rw [hv]
      rfl)
     have hm0N : Mod (fun _ => False) w wn := (hm0.then0 mB).thenB mq (.inl HZ.out.2.2.2.1)
     have HQ := Lib.hid (And.intro hv (And.intro kp1 (And.intro kp2 (And.intro hmN hm0N))))
     clear hv kp1 kp2 hmN hm0N
     have hms : l31 - (i + 1) < l31 - i := by omega
     have HIi := Lib.hid (show (i : Int) + 1 = ((i + 1 : Nat) : Int) by omega)
     have HMs := Lib.hid hms
     clear hms
     go_wp2_with fail
     go_roundw
     case rel => exact ⟨i + 1, _, hlt, by go_num, HPN, HQ.out.2.2.2.1, HQ.out.2.2.2.2, HQ.out.2.1, HQ.out.2.2.1⟩
     case measure => simp [intOf]; omega
    ·have hie : i = l31 := by omega
     have hpf : ∀ j : Nat, i = j → Hid (LpL w.heap.size wr (.slice a31 l31 l31) x.lks.l L j) := fun j e => by
      subst e
      exact HP
     have HPF := hpf _ hie
     clear hpf
     clear HP
     have HKP2 : Hid (∃ C, wr.heap[p2]? = some (.cells C 57 (0, 0))) := Lib.hid ⟨_, kp2⟩
     have HML := Lib.hid hmL
     go_upto_region 14 with fail
     have Lkp1 := lt_size kp1
     have Lkp2 := lt_size kp2
     refine wp_pass0 (C := fun _ _ _ => False) (κ := fun i => [1, 5].getD i 0) [0, 1] (by kernel_rfl) (by kernel_rfl) (fun _ _ d _ _ h => by cases d <;> first | exact h | exact absurd h (hP _ _ _)) ?_
     (refine TD.load (v := ?v103) (p := ?p103) (Mod.refl _ _) (by simp only [zK]; rfl) rfl (by rfl) rfl ?hx103 (fun wq hSq => ?y103) ?n103; (case hx103 => simp only [Act.eval, zM]; try rfl); (case y103 => (have kp1q := hSq.at kp1 (fun h => h); have kp2q := hSq.at kp2 (fun h => h); go_simp; (try with_reducible rfl))); try simp only [Act.put, zL])
     refine TD.eff (by simp only [zK]; rfl) rfl (fun wE hr => ?_)
     have kp1 := hr.mod.at0 kp1
     have kp2 := hr.mod.at0 kp2
     have mE := hr.mod
     (refine eff_store (X := ?X104) (Y := ?Y104) (w' := ?w104) (by simp only [zK]; rfl) (by rfl) rfl ?hx104 ?hz104 ?y104 ?n104; (case hx104 => simp only [Act.eval, zM]; try rfl); (case hz104 => simp only [Act.eval, zM]; try rfl); (case y104 => go_simp; try with_reducible rfl))
     (first | refine TE.nil_set kp2 (fun w9 kp2 mS => ?_) | refine TE.nil_setCell kp2 (fun w9 kp2 mS => ?_))
     (try simp only [Array.setIfInBounds, zL] at kp2)
     have kp1 := mS.at_ne kp1 (by omega)
     have m9 := (hm0.then0 mE).thenB mS (.inl gp2)
     clear hr
     go_wp2_with fail
     have mp2 : Mod (fun i => i = p2) wr w9 := (mE.mono (fun _ _ h => h.elim)).trans mS
     have HK : Hid (∃ C, wr.heap[p2]? = some (.cells C 57 (0, 0))) := HKP2
     have HEND : Hid (NewS uc 1 5 w.heap.size w9 (.slice a5 lb lb) x.b.l ∧ NewS sgc 64 134 w.heap.size w9 (.slice a16 l16 l16) x.sg.l ∧ NewS kc 32 89 w.heap.size w9 (.slice a21 l21 l21) x.ks.l ∧ NewS inr 3 138 w.heap.size w9 (.slice a26 l26 l26) LI ∧
       (∀ y ∈ LI, NewS uc 1 5 w.heap.size w9 (.slice y.a.a y.a.l.length y.a.c) y.a.l ∧ NewS uc 1 5 w.heap.size w9 (.slice y.d.a y.d.l.length y.d.c) y.d.l) ∧ NewS lor 34 141 w.heap.size w9 (.slice a31 l31 l31) L ∧
       (∀ y ∈ L, NewS uc 1 5 w.heap.size w9 (.slice y.w.a y.w.l.length y.w.c) y.w.l ∧ NewS uc 1 5 w.heap.size w9 (.slice y.r.a y.r.l.length y.r.c) y.r.l) ∧ NewS rcr 34 91 w.heap.size w9 (.slice a8 lr lr) x.ro.l) := Lib.hid (by
      obtain ⟨f1, f2, f3, f4, _⟩ := HG.out
      obtain ⟨C, kC⟩ := HK.out
      have hJ := HJ0.out.rows
      have up : ∀ {α : Type} {f : α → Array Value} {n : Nat} {E : TypeId} {v : Value} {l : List α}, E ≠ 141 → E ≠ 57 → NewS f n E w.heap.size wb v l → NewS f n E w.heap.size w9 v l := fun {α f n E v l} h1 h2 h => (h.other hJ h1 HML.out).offT kC h2 mp2
      have up2 : ∀ {α : Type} {f : α → Array Value} {n : Nat} {E : TypeId} {v : Value} {l : List α}, E ≠ 57 → NewS f n E w.heap.size wr v l → NewS f n E w.heap.size w9 v l := fun {α f n E v l} h2 h => h.offT kC h2 mp2
      have g26 : ∀ y ∈ LI, EI w.heap.size wb y y := fun y hy => by
       obtain ⟨j, hj⟩ := List.mem_iff_getElem?.1 hy
       have hjl := (List.getElem?_eq_some_iff.1 hj).1
       have hj2 := List.getElem?_eq_getElem (l := x.ins.l) (i := j) (by rw [← HPI.out.len]; exact hjl)
       obtain ⟨_, q1, q2⟩ := HPI.out.done j y _ (by rw [← hl26, ← HPI.out.len]; exact hjl) hj hj2
       exact ⟨rfl, q1, q2⟩
      have g31 : ∀ y ∈ L, EL w.heap.size wr y y := fun y hy => by
       obtain ⟨j, hj⟩ := List.mem_iff_getElem?.1 hy
       have hjl := (List.getElem?_eq_some_iff.1 hj).1
       have hj2 := List.getElem?_eq_getElem (l := x.lks.l) (i := j) (by rw [← HPF.out.len]; exact hjl)
       obtain ⟨_, q1, q2⟩ := HPF.out.done j y _ (by rw [← hl31, ← HPF.out.len]; exact hjl) hj hj2
       exact ⟨rfl, q1, q2⟩
      exact ⟨up (by decide) (by decide) f1, up (by decide) (by decide) f3, up (by decide) (by decide) f4, up (by decide) (by decide) HPI.out.rows, fun y hy => ⟨up (by decide) (by decide) (g26 y hy).2.1, up (by decide) (by decide) (g26 y hy).2.2⟩, up2 (by decide) HPF.out.rows,
       fun y hy => ⟨up2 (by decide) (g31 y hy).2.1, up2 (by decide) (g31 y hy).2.2⟩, up (by decide) (by decide) f2⟩)
     obtain ⟨y, hy⟩ : ∃ y : RdR, y = ⟨⟨a5, x.b.l, lb⟩, ⟨a16, x.sg.l, l16⟩, x.v0, x.h0, x.h1, x.h2, ⟨a21, x.ks.l, l21⟩, x.rc, ⟨a26, LI, l26⟩, ⟨a31, L, l31⟩, ⟨a8, x.ro.l, lr⟩, x.un, x.pr, x.bad, x.fee, x.cost, x.prio⟩ := ⟨_, rfl⟩
     have hrd : rdr y2 = rdr y := by
      rw [hy, HY2.out, HY1.out]
      unfold rdr rpre rpost
      simp only [HPI.out.len, HPF.out.len]
     rw [hrd] at kp2
     refine bodyPost_ret (results_cell1 (v := .agg (rdr y)) rfl rfl (by rw [ldRdy]; simp [kp2, rdr_all, rdr_size])) rfl ⟨y, rfl, ?_, ?_, m9⟩
     ·rw [hy]
      unfold RdR.con
      simp only
      rw [map_eq_of HPI.out.len (fun j a b ha hb => (HPI.out.done j a b (by rw [← hl26]; exact (List.getElem?_eq_some_iff.1 hb).1) ha hb).1), map_eq_of HPF.out.len (fun j a b ha hb => (HPF.out.done j a b (by rw [← hl31]; exact (List.getElem?_eq_some_iff.1 hb).1) ha hb).1)]
     ·have HE := HEND.out
      obtain ⟨e1, e2, e3, e4, e5, e6, e7, e8⟩ := HE
      rw [hy]
      exact ⟨e1.norm, e2.norm, e3.norm, e4.norm, fun y' hy' => ⟨(e5 y' hy').1.norm, (e5 y' hy').2.norm⟩, e6.norm, fun y' hy' => ⟨(e7 y' hy').1.norm, (e7 y' hy').2.norm⟩, e8.norm⟩
end Go.Proofs.YtdeghpmlhcaedaaGreatDoor
