/- The heap of both sides: Drop. -/
import Derived.Test.YtdeghpmlhcaedaaDoorRt
namespace Go.Proofs.YtdeghpmlhcaedaaDoor
open Go.RowKit Go.Sort
open Go.ChangeMaps (setBlock)
set_option linter.unusedSimpArgs false
set_option linter.unusedVariables false
attribute [local go_sem ↓] wlRk ldRk stRk eqRk eqRk2 wlSides ldSides stSides
attribute [local go_sem] rkc_size ndc_size cell_blk frozen_blk one_int one_bool one_ptr one_slice one_map Value.cells enter_fn eqMap neMap ix0 ix1 rkc_all1
theorem results_cell2 {P : Program} {fn : Func} {t u : Tmp} {T : TypeId} {tmps : Array Value} {p : Addr} {x : Value} {w : World} (h : fn.results = #[.cell t T, .tmp u]) (ht : tmps.getD t undef = .pointer (some p))
    (hl : (Instr.loadAt T (.pointer (some p))).run P w = .ok x w) : (results fn tmps).run P w = .ok (.tuple #[x, tmps.getD u undef]) w := by
  have hl2 : (loadVar T p).run P w = .ok x w := by simpa [Instr.loadAt, Instr.sureAddr] using hl
  rw [zD] at ht
  simp only [results, h]
  simp [Sem.run_bind, Result.andThen, ht, asAddr, hl2]
theorem eff_callP {P : Program} {ops : Array Oper} {Q : Exit → Act → World → Prop} {κ : Nat → Nat} {i : Nat} {r : List Nat} {a : Act} {o : Oper} {w : World} {f : FuncId} {args : Array Value} {v : Value} {Post : World → Prop} (ho : ops[i]? = some o) (hw : Region.wanted o (yielded ops a.tmps) = true)
    (hy : (execOp a.eval o).run P w = .ok (.enter f args) w) (hc : Calls P f args w fun e w' => e = .returned v ∧ Post w') (hn : ∀ w', Post w' → TE P ops Q κ r (a.put o.dst v) w') : wpOp P ops Q i (fun a' w'' => TE P ops Q κ r a' w'') a w := by
  unfold wpOp
  simp only [ho, hw, if_true]
  refine .inl ?_
  unfold Oper.wp
  rw [hy]
  refine hc.mono ?_
  rintro e w' ⟨rfl, hp⟩
  exact hn w' hp
section
variable {w w' : World} {s s' : Nat} {k : Bool} {v v' : Value} {L L' : List Nat} {nd nd' : Nat → Nd} {o o' : Nat → Int}
theorem Sd.cell (h : Sd w s k v L nd o) {b : Nat} (hb : b ∈ L) : w.heap[b]? = some (.cells (ndc k (nd b) (L.idxOf b : Int) (o b)) 131 (0, 0)) :=
  h.nodes (L.idxOf b) b (by rw [List.getElem?_eq_getElem (List.idxOf_lt_length_of_mem hb)]; simp)
theorem Sd.notown (h : Sd w s k v L nd o) {x : Nat} {ob : Obj} (hx : w.heap[x]? = some ob) (hne : ∀ cs, ob ≠ .cells cs 117 (0, 0)) : v.ownBlock ≠ some x := fun e => by
  obtain ⟨cur, kg⟩ := own_block h.own e
  rw [hx] at kg
  exact hne _ (Option.some.inj kg)
theorem Sd.notin (h : Sd w s k v L nd o) {x : Nat} {ob : Obj} (hx : w.heap[x]? = some ob) (hne : ∀ cs, ob ≠ .cells cs 131 (0, 0)) : x ∉ L := fun e => by
  obtain ⟨i, hi⟩ := List.mem_iff_getElem?.1 e
  have := h.nodes i x hi
  rw [hx] at this
  exact hne _ (Option.some.inj this)
end
theorem del_map_perm {κ ν : Type} [DecidableEq κ] {m : List (κ × ν)} {k : κ} {b : ν} (h : lkp k m = some b) : (m.map Prod.snd).Perm ((del k m).map Prod.snd ++ [b]) := by
  induction m with
  | nil => cases h
  | cons p r ih =>
    unfold lkp at h
    unfold del
    by_cases hp : p.1 = k
    · rw [if_pos hp] at h ⊢
      cases h
      simp only [List.map_cons]
      exact (List.perm_append_singleton _ _).symm
    · rw [if_neg hp] at h ⊢
      simp only [List.map_cons, List.cons_append]
      exact (ih h).cons _
theorem del_eraseP {κ ν α : Type} [DecidableEq κ] {m : List (κ × ν)} {k : κ} (f : κ × ν → α) (g : α → Bool) (h : ∀ p ∈ m, g (f p) = decide (p.1 = k)) : (del k m).map f = (m.map f).eraseP g := by
  induction m with
  | nil => rfl
  | cons p r ih =>
    unfold del
    have hp := h p (by simp)
    by_cases e : p.1 = k
    · rw [if_pos e, List.map_cons, List.eraseP_cons_of_pos (by rw [hp]; exact decide_eq_true e)]
    · rw [if_neg e, List.map_cons, List.map_cons, List.eraseP_cons_of_neg (by rw [hp, decide_eq_false e]; simp), ih (fun q hq => h q (by simp [hq]))]
/-- Where a drop of the node n is: ahead of the first side, between both, behind. -/
def DrS (w0 : World) (h s0 s1 mb : Nat) (v0 v1 : Value) (L0 L1 : List Nat) (nd : Nat → Nd) (m : List (Int64 × Nat)) (n : Nat) (j : Nat) (ws : World) : Prop :=
  ws.heap[h]? = some (.cells #[ptrV s0, ptrV s1, .map (some mb)] 112 (0, 0)) ∧ (∃ es c, ws.heap[mb]? = some (.map es c) ∧ MapIs idv ptrV es c m) ∧
  Mod (fun i => i = mb ∨ i = s0 ∨ i = s1 ∨ v0.ownBlock = some i ∨ v1.ownBlock = some i ∨ i ∈ L0 ∨ i ∈ L1) w0 ws ∧
  match j with
  | 0 => Sd ws s0 false v0 L0 nd (fun b => (L1.idxOf b : Int)) ∧ Sd ws s1 true v1 L1 nd (fun b => (L0.idxOf b : Int))
  | 1 => ∃ v0' L0' i', Sd ws s0 false v0' L0' nd (fun b => (L1.idxOf b : Int)) ∧ Sd ws s1 true v1 L1 nd (fun b => if b = n then i' else (L0'.idxOf b : Int)) ∧ HeapOk (lessOf false nd) L0'.length L0' ∧ (L0' ++ [n]).Perm L0 ∧ v0'.ownBlock = v0.ownBlock
  | _ => ∃ v0' L0' v1' L1', Hp ws h s0 s1 mb v0' v1' L0' L1' nd m ∧ (L0' ++ [n]).Perm L0 ∧ v0'.ownBlock = v0.ownBlock ∧ v1'.ownBlock = v1.ownBlock ∧ ∃ k i o, ws.heap[n]? = some (.cells (ndc k (nd n) i o) 131 (0, 0))
section
variable {w0 ws w1 : World} {h s0 s1 mb : Nat} {v0 v1 : Value} {L0 L1 : List Nat} {nd : Nat → Nd} {m : List (Int64 × Nat)} {n : Nat}
theorem DrS.mod0 {j : Nat} (H : DrS w0 h s0 s1 mb v0 v1 L0 L1 nd m n j ws) (hm : Mod (fun _ => False) ws w1) : DrS w0 h s0 s1 mb v0 v1 L0 L1 nd m n j w1 := by
  obtain ⟨kh, ⟨es, c, kb, M⟩, m0, H⟩ := H
  refine ⟨hm.at0 kh, ⟨es, c, hm.at0 kb, M⟩, m0.then0 hm, ?_⟩
  match j with
  | 0 => exact ⟨H.1.mod0 hm, H.2.mod0 hm⟩
  | 1 =>
    obtain ⟨v0', L0', i', d0, d1, H⟩ := H
    exact ⟨v0', L0', i', d0.mod0 hm, d1.mod0 hm, H⟩
  | j + 2 =>
    obtain ⟨v0', L0', v1', L1', hp, h1, h2, h3, k, i, o, kn⟩ := H
    exact ⟨v0', L0', v1', L1', hp.mod hm (fun _ _ e => e), h1, h2, h3, k, i, o, hm.at0 kn⟩
theorem DrS.one (H : DrS w0 h s0 s1 mb v0 v1 L0 L1 nd m n 0 ws) (hss : s0 ≠ s1) (hap : ∀ g, v0.ownBlock = some g → v1.ownBlock ≠ some g) (hp : L1.Perm L0) {v0' : Value} {L0' : List Nat}
    (hS : Sd w1 s0 false v0' L0' nd (fun b => (L1.idxOf b : Int))) (hok : HeapOk (lessOf false nd) L0'.length L0') (hperm : (L0' ++ [n]).Perm L0) (hm : Mod (fun x => x = s0 ∨ v0.ownBlock = some x ∨ x ∈ L0) ws w1)
    (hv : v0'.ownBlock = v0.ownBlock) {i' : Int} (hn : w1.heap[n]? = some (.cells (ndc false (nd n) i' (L1.idxOf n : Int)) 131 (0, 0))) : DrS w0 h s0 s1 mb v0 v1 L0 L1 nd m n 1 w1 := by
  obtain ⟨kh, ⟨es, c, kb, M⟩, m0, d0, d1⟩ := H
  have no : ∀ (x : Nat) (ob : Obj), ws.heap[x]? = some ob → x ≠ s0 → (∀ cs, ob ≠ .cells cs 117 (0, 0)) → (∀ cs, ob ≠ .cells cs 131 (0, 0)) → ¬ (x = s0 ∨ v0.ownBlock = some x ∨ x ∈ L0) := by
    rintro x ob hx h1 h2 h3 (e | e | e)
    · exact h1 e
    · exact d0.notown hx h2 e
    · exact d0.notin hx h3 e
  have kh1 := hm.at kh (no _ _ kh (ne_of_obj kh d0.side (obj_ty (by decide))) (fun _ => obj_ty (by decide)) (fun _ => obj_ty (by decide)))
  have kb1 := hm.at kb (no _ _ kb (ne_of_obj kb d0.side (by simp)) (by simp) (by simp))
  have ks1 := hm.at d1.side (no _ _ d1.side (Ne.symm hss) (fun _ => obj_ty (by decide)) (fun _ => obj_ty (by decide)))
  have ho1 := d1.own.mod hm (fun g hg e => by
    obtain ⟨cur, kg⟩ := own_block d1.own hg
    rcases e with e | e | e
    · exact ne_of_obj kg d0.side (obj_ty (by decide)) e
    · exact hap g e hg
    · exact d0.notin kg (fun _ => obj_ty (by decide)) e)
  refine ⟨kh1, ⟨es, c, kb1, M⟩, m0.then hm (fun i _ e => ?_), v0', L0', i', hS, ⟨ks1, ho1, fun i b hb => ?_⟩, hok, hperm, hv⟩
  · rcases e with e | e | e
    · exact .inr (.inl e)
    · exact .inr (.inr (.inr (.inl e)))
    · exact .inr (.inr (.inr (.inr (.inr (.inl e)))))
  · have hbi := idx_at d1.nodup hb
    by_cases e : b = n
    · subst e
      rw [if_pos rfl, ← ndc_not]
      rw [hbi] at hn
      exact hn
    · rw [if_neg e, ← ndc_not]
      have h1 : b ∈ L0' := by
        rcases List.mem_append.1 (hperm.mem_iff.2 (hp.mem_iff.1 (List.mem_of_getElem? hb))) with h | h
        · exact h
        · exact absurd (List.mem_singleton.1 h) e
      have h2 := hS.cell h1
      simp only [hbi] at h2
      exact h2
theorem DrS.two (H : DrS w0 h s0 s1 mb v0 v1 L0 L1 nd m n 1 ws) (hss : s0 ≠ s1) (hap : ∀ g, v0.ownBlock = some g → v1.ownBlock ≠ some g) (hp : L1.Perm L0) (hids : ∀ i b, (i, b) ∈ m → (nd b).id = i) (hpm : L0.Perm (m.map Prod.snd ++ [n])) {v1' : Value} {L1' : List Nat} {o1 : Nat → Int}
    (ho1 : ∀ v0' L0' i', Sd ws s0 false v0' L0' nd (fun b => (L1.idxOf b : Int)) → Sd ws s1 true v1 L1 nd (fun b => if b = n then i' else (L0'.idxOf b : Int)) → (L0' ++ [n]).Perm L0 → ∀ b ∈ L1', o1 b = (L0'.idxOf b : Int))
    (hS : Sd w1 s1 true v1' L1' nd o1) (hok : HeapOk (lessOf true nd) L1'.length L1') (hperm : (L1' ++ [n]).Perm L1) (hm : Mod (fun x => x = s1 ∨ v1.ownBlock = some x ∨ x ∈ L1) ws w1)
    (hv : v1'.ownBlock = v1.ownBlock) {i' o' : Int} (hn : w1.heap[n]? = some (.cells (ndc true (nd n) i' o') 131 (0, 0))) : DrS w0 h s0 s1 mb v0 v1 L0 L1 nd m n 2 w1 := by
  obtain ⟨kh, ⟨es, c, kb, M⟩, m0, v0', L0', i0, d0, d1, hok0, hperm0, hv0⟩ := H
  have no : ∀ (x : Nat) (ob : Obj), ws.heap[x]? = some ob → x ≠ s1 → (∀ cs, ob ≠ .cells cs 117 (0, 0)) → (∀ cs, ob ≠ .cells cs 131 (0, 0)) → ¬ (x = s1 ∨ v1.ownBlock = some x ∨ x ∈ L1) := by
    rintro x ob hx h1 h2 h3 (e | e | e)
    · exact h1 e
    · exact d1.notown hx h2 e
    · exact d1.notin hx h3 e
  have kh1 := hm.at kh (no _ _ kh (ne_of_obj kh d1.side (obj_ty (by decide))) (fun _ => obj_ty (by decide)) (fun _ => obj_ty (by decide)))
  have kb1 := hm.at kb (no _ _ kb (ne_of_obj kb d1.side (by simp)) (by simp) (by simp))
  have ks0 := hm.at d0.side (no _ _ d0.side hss (fun _ => obj_ty (by decide)) (fun _ => obj_ty (by decide)))
  have hown0 := d0.own.mod hm (fun g hg e => by
    obtain ⟨cur, kg⟩ := own_block d0.own hg
    rcases e with e | e | e
    · exact ne_of_obj kg d1.side (obj_ty (by decide)) e
    · rw [hv0] at hg
      exact hap g hg e
    · exact d1.notin kg (fun _ => obj_ty (by decide)) e)
  have hnd0 : (L0' ++ [n]).Nodup := hperm0.nodup_iff.2 (hp.nodup_iff.1 d1.nodup)
  have hnn : n ∉ L0' := fun e => (List.nodup_append.1 hnd0).2.2 n e n (by simp) rfl
  have hpp : L1'.Perm L0' := (List.perm_append_right_iff [n]).1 (hperm.trans (hp.trans hperm0.symm))
  have hoo := ho1 v0' L0' i0 d0 d1 hperm0
  have hd1 : Sd w1 s1 true v1' L1' nd (fun b => (L0'.idxOf b : Int)) := hS.congr (fun _ _ => rfl) (fun b hb => (hoo b hb).symm)
  have hd0 : Sd w1 s0 false v0' L0' nd (fun b => (L1'.idxOf b : Int)) := hd1.other ks0 hown0 (fun b hb => hpp.mem_iff.2 hb) (fun i b hb => idx_at d0.nodup hb)
  have hpm0 : L0'.Perm (m.map Prod.snd) := (List.perm_append_right_iff [n]).1 (hperm0.trans hpm)
  refine ⟨kh1, ⟨es, c, kb1, M⟩, m0.then hm (fun i _ e => ?_), v0', L0', v1', L1', ⟨kh1, ⟨es, c, kb1, M⟩, hd0, hd1, hok0, hok, hpm0, hpp.trans hpm0, hids, fun g hg => by rw [hv]; rw [hv0] at hg; exact hap g hg, hss⟩, hperm0, hv0, hv, true, i', o', hn⟩
  rcases e with e | e | e
  · exact .inr (.inr (.inl e))
  · exact .inr (.inr (.inr (.inr (.inl e))))
  · exact .inr (.inr (.inr (.inr (.inr (.inr e)))))
end
theorem bldR (w : World) : (Instr.build 60 #[]).run Tryd.prog w = .ok (.agg (rkc rk0)) w := by kernel_rfl
set_option maxRecDepth 20000 in
set_option maxHeartbeats 3200000 in
theorem dropN_c {h : Nat} {C : List Nd} {T : Nat → Prop} {w : World} (hA : HAt h C T w) (id : Int64) (hid : ∀ x ∈ C, x.id ≠ id) :
    Calls Tryd.prog 31 #[ptrV h, .int .i64 id.toInt] w fun e w' => e = .returned (.tuple #[.agg (rkc rk0), .int .i64 11]) ∧ Mod (fun _ => False) w w' := by
  obtain ⟨s0, s1, mb, v0, v1, L0, L1, nd, m, H, rfl, hO⟩ := hA
  have hnone : lkp id m = none := by
    rw [lkp_none_iff]
    intro hmem
    obtain ⟨p, hp, rfl⟩ := List.mem_map.1 hmem
    exact hid _ (List.mem_map.2 ⟨p, hp, rfl⟩) (H.ids _ _ hp)
  obtain ⟨es, c, kb, M⟩ := H.km
  have kh := H.kh
  have hlk : ∀ wq b', wq.heap[mb]? = some (.map es c) → (Instr.lookup 108 (.map (some mb)) (.int .i64 id.toInt) b').run Tryd.prog wq = _ := fun wq b' hq => M.lookup idT Tryd.underlying108 (z := .pointer none) (fun w => by kernel_rfl) wq hq id b'
  simp only [hnone, Option.map_none, Option.getD_none, Option.isSome_none] at hlk
  have HLK := Lib.hid hlk
  have hb0 := bldR
  clear H hO hid hlk hnone M
  go_enter Tryd.func31, Tryd.ntmps31
  go_upto_region 0 with fail
  have Lkh := lt_size kh
  have Lkb := lt_size kb
  refine wp_pass0 (C := fun _ _ _ => False) (κ := fun i => [3, 0].getD i 0) [0, 1] (by kernel_rfl) (by kernel_rfl) (fun _ _ d _ _ h => by cases d <;> first | exact h | exact absurd h (hP _ _ _)) ?_
  (refine TD.allocB (by simp only [zA, zB, zC]; rfl) rfl ?hw1 rfl rfl alRk (fun p4 hp4 => ?hn1); (case hw1 => rfl); (try simp only [Act.put, zF, zG, zH]))
  (refine TD.val0 (v := ?v2) (by simp only [zA, zB, zC]; rfl) rfl ?hw2 (fun w1 => ?hy2) ?hn2; (case hw2 => rfl); (case hy2 => (go_simp; (try with_reducible rfl))); (try simp only [Act.put, zF, zG, zH]))
  refine TD.nil (fun w1 hr => ?_)
  have kh := hr.mod.at kh (fun h => h)
  have kb := hr.mod.at kb (fun h => h)
  have kp4 := hr.box p4 _ (by first | exact Bx.set_same _ _ _ | (simp only [Bx.set_same]; rfl)); dsimp only [Value.cells] at kp4; obtain ⟨gp4, kp4⟩ := kp4
  have m1 := hr.mod
  clear hr
  go_wp2_with fail
  go_at_call 55
  refine (there_c kh).mono ?_
  rintro e w2 ⟨rfl, rfl⟩
  go_upto_region 3 with fail
  have hl : ∀ wq, Mod (fun _ => False) w2 wq → (Instr.lookup 108 (.map (some mb)) (.int .i64 id.toInt) true).run Tryd.prog wq = .ok (.tuple #[.pointer none, .bool false]) wq := fun wq hq => HLK.out wq true (hq.at0 kb)
  have Lkh := lt_size kh
  have Lkb := lt_size kb
  have Lkp4 := lt_size kp4
  refine wp_pass0 (C := fun _ _ _ => False) (κ := fun i => [0, 0, 0, 1, 0, 1, 0, 0, 0, 0, 0].getD i 0) [0, 1, 2, 3, 4, 5, 6, 7, 8, 9, 10] (by kernel_rfl) (by kernel_rfl) (fun _ _ d _ _ h => by cases d <;> first | exact h | exact absurd h (hP _ _ _)) ?_
  (refine TD.val0 (v := ?v3) (by simp only [zA, zB, zC]; rfl) rfl ?hw3 (fun w1 => ?hy3) ?hn3; (case hw3 => rfl); (case hy3 => (go_simp; (try with_reducible rfl))); (try simp only [Act.put, zF, zG, zH]))
  (refine TD.val0 (v := ?v4) (by simp only [zA, zB, zC]; rfl) rfl ?hw4 (fun w1 => ?hy4) ?hn4; (case hw4 => rfl); (case hy4 => (go_simp; (try with_reducible rfl))); (try simp only [Act.put, zF, zG, zH]))
  (refine TD.val0 (v := ?v5) (by simp only [zA, zB, zC]; rfl) rfl ?hw5 (fun w1 => ?hy5) ?hn5; (case hw5 => rfl); (case hy5 => (go_simp; (try with_reducible rfl))); (try simp only [Act.put, zF, zG, zH]))
  (refine TD.load (v := ?v6) (p := ?p6) (Mod.refl _ _) (by simp only [zA, zB, zC]; rfl) rfl ?hw6 rfl ?hx6 (fun wq hSq => ?hy6) ?hn6; (case hw6 => rfl); (case hx6 => (simp only [Act.eval, zD, zA, zB, zC, zE]; (try rfl))); (case hy6 => (have khq := hSq.at kh (fun h => h); have kbq := hSq.at kb (fun h => h); have kp4q := hSq.at kp4 (fun h => h); go_simp; (try with_reducible rfl))); (try simp only [Act.put, zF, zG, zH]))
  (refine TD.val0 (v := ?v7) (by simp only [zA, zB, zC]; rfl) rfl ?hw7 (fun w1 => ?hy7) ?hn7; (case hw7 => rfl); (case hy7 => (go_simp; (try with_reducible rfl))); (try simp only [Act.put, zF, zG, zH]))
  (refine TD.lookup (v := ?v8) (p := ?p8) (q := ?q8) (Mod.refl _ _) (by simp only [zA, zB, zC]; rfl) rfl ?hw8 rfl ?hx8 ?hz8 (fun wq hSq => ?hy8) ?hn8; (case hw8 => rfl); (case hx8 => (simp only [Act.eval, zD, zA, zB, zC, zE]; (try rfl))); (case hz8 => (simp only [Act.eval, zD, zA, zB, zC, zE]; (try rfl))); (case hy8 => (rw [hl wq hSq]; (try with_reducible rfl))); (try simp only [Act.put, zF, zG, zH]))
  (refine TD.val0 (v := ?v9) (by simp only [zA, zB, zC]; rfl) rfl ?hw9 (fun w1 => ?hy9) ?hn9; (case hw9 => rfl); (case hy9 => (go_simp; (try with_reducible rfl))); (try simp only [Act.put, zF, zG, zH]))
  (refine TD.val0 (v := ?v10) (by simp only [zA, zB, zC]; rfl) rfl ?hw10 (fun w1 => ?hy10) ?hn10; (case hw10 => rfl); (case hy10 => (go_simp; (try with_reducible rfl))); (try simp only [Act.put, zF, zG, zH]))
  (refine TD.val0 (v := ?v11) (by simp only [zA, zB, zC]; rfl) rfl ?hw11 (fun w1 => ?hy11) ?hn11; (case hw11 => rfl); (case hy11 => (go_simp; (try with_reducible rfl))); (try simp only [Act.put, zF, zG, zH]))
  (refine TD.val0 (v := ?v12) (by simp only [zA, zB, zC]; rfl) rfl ?hw12 (fun w1 => ?hy12) ?hn12; (case hw12 => rfl); (case hy12 => (go_simp; (try with_reducible rfl))); (try simp only [Act.put, zF, zG, zH]))
  (refine TD.val0 (v := ?v13) (by simp only [zA, zB, zC]; rfl) rfl ?hw13 (fun w1 => ?hy13) ?hn13; (case hw13 => rfl); (case hy13 => (go_simp; (try with_reducible rfl))); (try simp only [Act.put, zF, zG, zH]))
  refine TD.nil (fun w3 hr => ?_)
  have kh := hr.mod.at kh (fun h => h)
  have kb := hr.mod.at kb (fun h => h)
  have kp4 := hr.mod.at kp4 (fun h => h)
  have m3 := m1.then0 hr.mod
  clear hr hl
  replace kp4 : w3.heap[p4]? = some (.cells #[.int .u64 0, .int .u64 0] 60 (0, 0)) := kp4
  go_upto_region 5 with fail
  have Lkp4 := lt_size kp4
  refine wp_pass0 (C := fun _ _ _ => False) (κ := fun i => [0, 5, 0].getD i 0) [0, 1, 2] (by kernel_rfl) (by kernel_rfl) (fun _ _ d _ _ h => by cases d <;> first | exact h | exact absurd h (hP _ _ _)) ?_
  (refine TD.build (v := ?v14) (ps := ?p14) (by simp only [zA, zB, zC]; rfl) rfl ?hw14 rfl ?hx14 (fun w1 => ?hy14) ?hn14; (case hw14 => rfl); (case hx14 => (simp only [List.map_toArray, List.map_cons, List.map_nil, Act.eval, zD, zA, zB, zC, zE]; (try rfl))); (case hy14 => (rw [hb0]; (try with_reducible rfl))); (try simp only [Act.put, zF, zG, zH]))
  refine TD.eff (by simp only [zA, zB, zC]; rfl) rfl (fun w4 hr => ?_)
  have kp4 := hr.mod.at kp4 (fun h => h)
  have m4 := m3.then0 hr.mod
  clear hr
  (refine eff_store (X := ?X16) (Y := ?Y16) (w' := ?w16) (by simp only [zA, zB, zC]; rfl) ?hw16 rfl ?hx16 ?hz16 ?hy16 ?hn16; (case hw16 => rfl); (case hx16 => (simp only [Act.eval, zD, zA, zB, zC, zE]; (try rfl))); (case hz16 => (simp only [Act.eval, zD, zA, zB, zC, zE]; (try rfl))); (case hy16 => (go_simp; (try with_reducible rfl))))
  (first | refine TE.mid_set kp4 (fun wn kp4 mS => ?_) | refine TE.mid_setCell kp4 (fun wn kp4 mS => ?_))
  (try simp only [Array.setIfInBounds, zF, zG, zH] at kp4)
  have m5 := m4.thenB mS (.inl gp4)
  clear mS
  (refine TE.val0 (v := ?v17) (by simp only [zA, zB, zC]; rfl) ?hw17 (fun w1 => ?hy17) ?hn17; (case hw17 => rfl); (case hy17 => (go_simp; (try with_reducible rfl))); (try simp only [Act.put, zF, zG, zH]))
  refine TE.nil ?_
  go_wp2_with fail
  exact bodyPost_ret (results_cell2 (x := .agg (rkc rk0)) rfl rfl (by rw [ldRk]; simp [kp4, rkc, rk0])) rfl ⟨rfl, m5⟩
end Go.Proofs.YtdeghpmlhcaedaaDoor
