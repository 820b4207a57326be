/- The heap of both sides: Push. -/
import Derived.Test.YtdeghpmlhcaedaaDoorRh
namespace Go.Proofs.YtdeghpmlhcaedaaDoor
open Go.RowKit Go.Sort
open Go.ChangeMaps (setBlock)
set_option linter.unusedSimpArgs false
set_option linter.unusedVariables false
attribute [local go_sem ↓] wlRk ldRk stRk eqRk eqRk2
attribute [local go_sem] rkc_size ndc_size cell_blk frozen_blk one_int one_bool one_ptr one_slice one_map Value.cells enter_fn eqMap neMap
section
variable {w w' : World} {s s' : Nat} {k : Bool} {v v' : Value} {L L' : List Nat} {nd nd' : Nat → Nd} {o o' : Nat → Int}
theorem Sd.congr (h : Sd w s k v L nd o) (hnd : ∀ b ∈ L, nd' b = nd b) (ho : ∀ b ∈ L, o' b = o b) : Sd w s k v L nd' o' :=
  ⟨h.side, h.own, fun i b hb => by rw [hnd b (List.mem_of_getElem? hb), ho b (List.mem_of_getElem? hb)]; exact h.nodes i b hb⟩
theorem ndc_not (k : Bool) (x : Nd) (i o : Int) : ndc (!k) x i o = ndc k x o i := by cases k <;> rfl
/-- Seen from the other side. -/
theorem Sd.other (h : Sd w s k v L nd o) (hs : w.heap[s']? = some (.cells (sdc (!k) v') 116 (0, 0))) (hown : SlOwn pc 1 117 w 0 v' L') (hsub : ∀ b ∈ L', b ∈ L) (ho : ∀ (i b : Nat), L'[i]? = some b → o b = i) :
    Sd w s' (!k) v' L' nd (fun b => (L.idxOf b : Int)) := by
  refine ⟨hs, hown, fun i b hb => ?_⟩
  have hm := hsub b (List.mem_of_getElem? hb)
  have h1 := h.nodes (L.idxOf b) b (by rw [List.getElem?_eq_getElem (List.idxOf_lt_length_of_mem hm)]; simp)
  rw [ndc_not, ← ho i b hb]
  exact h1
theorem idx_at {L : List Nat} (h : L.Nodup) {i b : Nat} (hb : L[i]? = some b) : (L.idxOf b : Int) = i := by
  obtain ⟨hi, rfl⟩ := List.getElem?_eq_some_iff.1 hb
  rw [h.idxOf_getElem]
theorem HeapOk.congr {lt lt' : Nat → Nat → Bool} {n : Nat} {L : List Nat} (h : HeapOk lt n L) (he : ∀ a ∈ L, ∀ b ∈ L, lt' a b = lt a b) : HeapOk lt' n L := fun c hc hcn a b ha hb => by
  rw [he a (List.mem_of_getElem? ha) b (List.mem_of_getElem? hb)]
  exact h c hc hcn a b ha hb
end
def zSides : Array Value := #[.pointer none, .pointer none]
theorem ldSides (w : World) (b o : Nat) : (Instr.loadAt 110 (.pointer (some ⟨b, o, none⟩))).run Tryd.prog w =
      match w.heap[b]? with
      | some (.cells cs _ _) => if o + 2 ≤ cs.size then .ok (.agg (cs.extract o (o + 2))) w else farL Tryd.prog w 110 b o
      | _ => farL Tryd.prog w 110 b o := load_rule (d := _) Tryd.underlying110 rfl (by kernel_rfl) w b o
theorem stSides (w : World) (b o : Nat) (xs : Array Value) : (Instr.storeAt 110 (.pointer (some ⟨b, o, none⟩)) (.agg xs)).run Tryd.prog w =
      match w.heap[b]? with
      | some (.cells cs U (0, 0)) =>
        if o + 2 ≤ cs.size ∧ xs.size = 2 ∧ xs.all (·.oneCell') = true then .ok () (setBlock w b (.cells (if o = 0 ∧ 2 = cs.size then xs else wr cs o xs.toList) U (0, 0))) else farS Tryd.prog w 110 b o (.agg xs)
      | _ => farS Tryd.prog w 110 b o (.agg xs) := store_rule (by kernel_rfl) w b o xs
theorem wlSides (dst : Option Tmp) (x : Operand) (ty : TypeId) (pos : String) (after : Array Edge) (g : Option (Nat × Bool)) (a : Act) (w : World) (K : Act → World → Prop) (Q : Exit → Act → World → Prop) :
    Oper.wp Tryd.prog { dst := dst, op := .load 110 x, type := ty, pos := pos, after := after, guard := g } a w K Q =
      (match a.eval x with
      | .pointer (some ⟨b, o, none⟩) =>
        (match w.heap[b]? with
        | some (.cells cs _ _) => if o + 2 ≤ cs.size then K (a.put dst (.agg (cs.extract o (o + 2)))) w else farW Tryd.prog { dst := dst, op := .load 110 x, type := ty, pos := pos, after := after, guard := g } a w K Q
        | _ => farW Tryd.prog { dst := dst, op := .load 110 x, type := ty, pos := pos, after := after, guard := g } a w K Q)
      | _ => farW Tryd.prog { dst := dst, op := .load 110 x, type := ty, pos := pos, after := after, guard := g } a w K Q) := wp_load_rule (d := _) Tryd.underlying110 rfl (by kernel_rfl) dst x ty pos after g a w K Q
theorem alSides (w : World) : (Instr.alloc 110 true (.tuple #[])).run Tryd.prog w = .ok (.pointer (some ⟨w.heap.size, 0, none⟩)) (w.alloc (.cells zSides 110)) :=
  run_alloc_row (z := .agg zSides) (fun w => by kernel_rfl) w
attribute [local go_sem ↓] wlSides ldSides stSides
theorem ix0 (a b : Nat) (w : World) : (Instr.index 110 (.agg #[ptrV a, ptrV b]) (.int .i64 0)).run Tryd.prog w = .ok (ptrV a) w := by kernel_rfl
theorem ix1 (a b : Nat) (w : World) : (Instr.index 110 (.agg #[ptrV a, ptrV b]) (.int .i64 1)).run Tryd.prog w = .ok (ptrV b) w := by kernel_rfl
attribute [local go_sem] ix0 ix1
theorem bldN (r : Rk) (id : Int64) (w : World) : (Instr.build 131 #[(0, .agg #[.int .u64 (r.p.toNat : Int), .int .u64 (r.n.toNat : Int)]), (1, .int .i64 id.toInt)]).run Tryd.prog w = .ok (.agg (ndc false ⟨r, id⟩ 0 0)) w := by kernel_rfl
/-- The node n put ahead of the map's change. -/
def upd (nd : Nat → Nd) (n : Nat) (x : Nd) (b : Nat) : Nd := if b = n then x else nd b
/-- Between both sides. -/
def Pu1 (w0 ws : World) (s0 s1 mb : Nat) (v0 v1 v0' : Value) (L0 L1 L0' : List Nat) (nd : Nat → Nd) (n : Nat) : Prop :=
  Sd ws s0 false v0' L0' nd (fun b => if b = n then 0 else (L1.idxOf b : Int)) ∧ Sd ws s1 true v1 L1 nd (fun b => (L0'.idxOf b : Int)) ∧ (∃ i : Int, ws.heap[n]? = some (.cells (ndc true (nd n) 0 i) 131 (0, 0)) ∧ i = L0'.idxOf n) ∧ HeapOk (lessOf false nd) L0'.length L0' ∧ L0'.Perm (L0 ++ [n]) ∧
      Mod (fun i => i = mb ∨ i = s0 ∨ i = n ∨ v0.ownBlock = some i ∨ i ∈ L0) w0 ws ∧ (∀ g, v0'.ownBlock = some g → v1.ownBlock ≠ some g) ∧ (v0'.ownBlock = v0.ownBlock ∨ ∃ g, v0'.ownBlock = some g ∧ w0.heap.size ≤ g)
/-- Where a push is: ahead of the first side, between both, behind. -/
def PuS (w0 : World) (h s0 s1 mb : Nat) (v0 v1 : Value) (L0 L1 : List Nat) (nd : Nat → Nd) (m : List (Int64 × Nat)) (n : Nat) (j : Nat) (ws : World) : Prop :=
  ws.heap[h]? = some (.cells #[ptrV s0, ptrV s1, .map (some mb)] 112 (0, 0)) ∧ (∃ es c, ws.heap[mb]? = some (.map es c) ∧ MapIs idv ptrV es c m) ∧
  match j with
  | 0 => Sd ws s0 false v0 L0 nd (fun b => if b = n then 0 else (L1.idxOf b : Int)) ∧ Sd ws s1 true v1 L1 nd (fun b => (L0.idxOf b : Int)) ∧ ws.heap[n]? = some (.cells (ndc false (nd n) 0 0) 131 (0, 0)) ∧ Mod (fun i => i = mb) w0 ws
  | 1 => ∃ v0' L0', Pu1 w0 ws s0 s1 mb v0 v1 v0' L0 L1 L0' nd n
  | _ => ∃ v0' L0' v1' L1', Hp ws h s0 s1 mb v0' v1' L0' L1' nd m ∧ L0'.Perm (L0 ++ [n]) ∧ Mod (fun i => i = mb ∨ i = s0 ∨ i = s1 ∨ i = n ∨ v0.ownBlock = some i ∨ v1.ownBlock = some i ∨ i ∈ L0 ∨ i ∈ L1) w0 ws ∧
      (v0'.ownBlock = v0.ownBlock ∨ ∃ g, v0'.ownBlock = some g ∧ w0.heap.size ≤ g) ∧ (v1'.ownBlock = v1.ownBlock ∨ ∃ g, v1'.ownBlock = some g ∧ w0.heap.size ≤ g)
theorem PuS.one {w0 ws w1 : World} {h s0 s1 mb : Nat} {v0 v1 v0' : Value} {L0 L1 L0' : List Nat} {nd : Nat → Nd} {m : List (Int64 × Nat)} {n : Nat} (H : PuS w0 h s0 s1 mb v0 v1 L0 L1 nd m n 0 ws) (hss : s0 ≠ s1) (hap : ∀ g, v0.ownBlock = some g → v1.ownBlock ≠ some g) (hn1 : n ∉ L1) (hp : L1.Perm L0)
    (hS : Sd w1 s0 false v0' L0' nd (fun b => if b = n then 0 else (L1.idxOf b : Int))) (hok : HeapOk (lessOf false nd) L0'.length L0') (hperm : L0'.Perm (L0 ++ [n])) (hm : Mod (fun x => x = s0 ∨ x = n ∨ v0.ownBlock = some x ∨ x ∈ L0) ws w1)
    (hv : v0'.ownBlock = v0.ownBlock ∨ ∃ g, v0'.ownBlock = some g ∧ ws.heap.size ≤ g) : PuS w0 h s0 s1 mb v0 v1 L0 L1 nd m n 1 w1 := by
  obtain ⟨kh, ⟨es, c, kb, M⟩, d0, d1, kn, m0⟩ := H
  have own0 : ∀ (x : Nat) (ob : Obj), ws.heap[x]? = some ob → (∀ cs, ob ≠ .cells cs 117 (0, 0)) → v0.ownBlock ≠ some x := fun x ob hx hne e => by
    obtain ⟨cur, kg⟩ := own_block d0.own e
    rw [hx] at kg
    exact hne _ (Option.some.inj kg)
  have inL : ∀ (x : Nat) (ob : Obj), ws.heap[x]? = some ob → (∀ cs, ob ≠ .cells cs 131 (0, 0)) → x ∉ L0 := fun x ob hx hne e => by
    obtain ⟨i, hi⟩ := List.mem_iff_getElem?.1 e
    have := d0.nodes i x hi
    rw [hx] at this
    exact hne _ (Option.some.inj this)
  have kh1 := hm.at kh (fun e => by
    rcases e with e | e | e | e
    · exact ne_of_obj kh d0.side (obj_ty (by decide)) e
    · exact ne_of_obj kh kn (obj_ty (by decide)) e
    · exact own0 _ _ kh (fun _ => obj_ty (by decide)) e
    · exact inL _ _ kh (fun _ => obj_ty (by decide)) e)
  have kb1 := hm.at kb (fun e => by
    rcases e with e | e | e | e
    · exact ne_of_obj kb d0.side (by simp) e
    · exact ne_of_obj kb kn (by simp) e
    · exact own0 _ _ kb (by simp) e
    · exact inL _ _ kb (by simp) e)
  have ks1 := hm.at d1.side (fun e => by
    rcases e with e | e | e | e
    · exact hss e.symm
    · exact ne_of_obj d1.side kn (obj_ty (by decide)) e
    · exact own0 _ _ d1.side (fun _ => obj_ty (by decide)) e
    · exact inL _ _ d1.side (fun _ => obj_ty (by decide)) e)
  have ho1 := d1.own.mod hm (fun g hg e => by
    obtain ⟨cur, kg⟩ := own_block d1.own hg
    rcases e with e | e | e | e
    · exact ne_of_obj kg d0.side (obj_ty (by decide)) e
    · exact ne_of_obj kg kn (obj_ty (by decide)) e
    · exact hap g e hg
    · exact inL _ _ kg (fun _ => obj_ty (by decide)) e)
  have hsub : ∀ b ∈ L1, b ∈ L0' := fun b hb => hperm.mem_iff.2 (List.mem_append_left _ (hp.mem_iff.1 hb))
  have hd1 := hS.other ks1 ho1 hsub (fun i b hb => by
    have hbn : b ≠ n := fun e => hn1 (e ▸ List.mem_of_getElem? hb)
    show (if b = n then 0 else (L1.idxOf b : Int)) = i
    rw [if_neg hbn]
    exact idx_at d1.nodup hb)
  have hnm : n ∈ L0' := hperm.mem_iff.2 (by simp)
  have hk := hS.nodes (L0'.idxOf n) n (by rw [List.getElem?_eq_getElem (List.idxOf_lt_length_of_mem hnm)]; simp)
  rw [if_pos rfl] at hk
  refine ⟨kh1, ⟨es, c, kb1, M⟩, v0', L0', hS, hd1, ⟨_, hk, rfl⟩, hok, hperm, (m0.mono (T := fun i => i = mb ∨ i = s0 ∨ i = n ∨ v0.ownBlock = some i ∨ i ∈ L0) (fun _ _ e => .inl e)).then hm (fun i _ e => .inr e), ?_, ?_⟩
  · intro g hg e
    rcases hv with hv | ⟨g', hv, hg'⟩
    · rw [hv] at hg
      exact hap g hg e
    · rw [hv] at hg
      cases hg
      have := (d1.own.lt _ e).2
      omega
  · rcases hv with hv | ⟨g', hv, hg'⟩
    · exact .inl hv
    · exact .inr ⟨g', hv, Nat.le_trans m0.size hg'⟩
theorem Pu1.two {w0 ws w1 : World} {h s0 s1 mb : Nat} {v0 v1 v0' v1' : Value} {L0 L1 L0' L1' : List Nat} {nd : Nat → Nd} {m : List (Int64 × Nat)} {n : Nat} (kh : ws.heap[h]? = some (.cells #[ptrV s0, ptrV s1, .map (some mb)] 112 (0, 0))) (km : ∃ es c, ws.heap[mb]? = some (.map es c) ∧ MapIs idv ptrV es c m)
    (P1 : Pu1 w0 ws s0 s1 mb v0 v1 v0' L0 L1 L0' nd n) (hss : s0 ≠ s1) (hn1 : n ∉ L1) (hp : L1.Perm L0) (hm2 : (L0 ++ [n]).Perm (m.map Prod.snd)) (hids : ∀ i b, (i, b) ∈ m → (nd b).id = i)
    (hS : Sd w1 s1 true v1' L1' nd (fun b => (L0'.idxOf b : Int))) (hok : HeapOk (lessOf true nd) L1'.length L1') (hperm : L1'.Perm (L1 ++ [n])) (hm : Mod (fun x => x = s1 ∨ x = n ∨ v1.ownBlock = some x ∨ x ∈ L1) ws w1)
    (hv : v1'.ownBlock = v1.ownBlock ∨ ∃ g, v1'.ownBlock = some g ∧ ws.heap.size ≤ g) : PuS w0 h s0 s1 mb v0 v1 L0 L1 nd m n 2 w1 := by
  obtain ⟨es, c, kb, M⟩ := km
  obtain ⟨d0, d1, ⟨i, kn, _⟩, hok0, hperm0, m0, hap, hv0⟩ := P1
  have own1 : ∀ (x : Nat) (ob : Obj), ws.heap[x]? = some ob → (∀ cs, ob ≠ .cells cs 117 (0, 0)) → v1.ownBlock ≠ some x := fun x ob hx hne e => by
    obtain ⟨cur, kg⟩ := own_block d1.own e
    rw [hx] at kg
    exact hne _ (Option.some.inj kg)
  have inL : ∀ (x : Nat) (ob : Obj), ws.heap[x]? = some ob → (∀ cs, ob ≠ .cells cs 131 (0, 0)) → x ∉ L1 := fun x ob hx hne e => by
    obtain ⟨i, hi⟩ := List.mem_iff_getElem?.1 e
    have := d1.nodes i x hi
    rw [hx] at this
    exact hne _ (Option.some.inj this)
  have kh1 := hm.at kh (fun e => by
    rcases e with e | e | e | e
    · exact ne_of_obj kh d1.side (obj_ty (by decide)) e
    · exact ne_of_obj kh kn (obj_ty (by decide)) e
    · exact own1 _ _ kh (fun _ => obj_ty (by decide)) e
    · exact inL _ _ kh (fun _ => obj_ty (by decide)) e)
  have kb1 := hm.at kb (fun e => by
    rcases e with e | e | e | e
    · exact ne_of_obj kb d1.side (by simp) e
    · exact ne_of_obj kb kn (by simp) e
    · exact own1 _ _ kb (by simp) e
    · exact inL _ _ kb (by simp) e)
  have ks0 := hm.at d0.side (fun e => by
    rcases e with e | e | e | e
    · exact hss e
    · exact ne_of_obj d0.side kn (obj_ty (by decide)) e
    · exact own1 _ _ d0.side (fun _ => obj_ty (by decide)) e
    · exact inL _ _ d0.side (fun _ => obj_ty (by decide)) e)
  have ho0 := d0.own.mod hm (fun g hg e => by
    obtain ⟨cur, kg⟩ := own_block d0.own hg
    rcases e with e | e | e | e
    · exact ne_of_obj kg d1.side (obj_ty (by decide)) e
    · exact ne_of_obj kg kn (obj_ty (by decide)) e
    · exact hap g hg e
    · exact inL _ _ kg (fun _ => obj_ty (by decide)) e)
  have hp2 : (L1 ++ [n]).Perm (L0 ++ [n]) := hp.append_right _
  have hsub : ∀ b ∈ L0', b ∈ L1' := fun b hb => hperm.mem_iff.2 (hp2.mem_iff.2 (hperm0.mem_iff.1 hb))
  have hd0 := hS.other ks0 ho0 hsub (fun i b hb => idx_at d0.nodup hb)
  refine ⟨kh1, ⟨es, c, kb1, M⟩, v0', L0', v1', L1', ⟨kh1, ⟨es, c, kb1, M⟩, hd0, hS, hok0, hok, hperm0.trans hm2, (hperm.trans hp2).trans hm2, hids, fun g hg e => ?_, hss⟩, hperm0, (m0.mono (T := fun i => i = mb ∨ i = s0 ∨ i = s1 ∨ i = n ∨ v0.ownBlock = some i ∨ v1.ownBlock = some i ∨ i ∈ L0 ∨ i ∈ L1) (fun i _ e => ?_)).then hm (fun i _ e => ?_), hv0, ?_⟩
  · rcases hv with hv | ⟨g', hv, hg'⟩
    · rw [hv] at e
      exact hap g hg e
    · rw [hv] at e
      cases e
      have := (d0.own.lt _ hg).2
      omega
  · rcases e with e | e | e | e | e
    · exact .inl e
    · exact .inr (.inl e)
    · exact .inr (.inr (.inr (.inl e)))
    · exact .inr (.inr (.inr (.inr (.inl e))))
    · exact .inr (.inr (.inr (.inr (.inr (.inr (.inl e))))))
  · rcases e with e | e | e | e
    · exact .inr (.inr (.inl e))
    · exact .inr (.inr (.inr (.inl e)))
    · exact .inr (.inr (.inr (.inr (.inr (.inl e)))))
    · exact .inr (.inr (.inr (.inr (.inr (.inr (.inr e))))))
  · rcases hv with hv | ⟨g', hv, hg'⟩
    · exact .inl hv
    · exact .inr ⟨g', hv, Nat.le_trans m0.size hg'⟩
set_option maxRecDepth 20000 in
set_option maxHeartbeats 3200000 in
theorem pushH_c {h : Nat} {C : List Nd} {T : Nat → Prop} {w : World} (hA : HAt h C T w) (hT : ∀ i, T i → i < w.heap.size) (r : Rk) (id : Int64) (hC : C.length ≤ 700000) (hid : ∀ x ∈ C, x.id ≠ id) :
    Calls Tryd.prog 33 #[ptrV h, .agg (rkc r), .int .i64 id.toInt] w fun e w' => e = .returned (.int .i64 0) ∧ ∃ T', HAt h (C ++ [⟨r, id⟩]) T' w' ∧ Mod T w w' ∧ (∀ i, T' i → T i ∨ w.heap.size ≤ i) ∧ ∀ i, T' i → i < w'.heap.size := by
  obtain ⟨s0, s1, mb, v0, v1, L0, L1, nd, m, H, rfl, hO⟩ := hA
  have hnone : lkp id m = none := by
    rw [lkp_none_iff]
    intro hmem
    obtain ⟨p, hp, rfl⟩ := List.mem_map.1 hmem
    exact hid _ (List.mem_map.2 ⟨p, hp, rfl⟩) (H.ids _ _ hp)
  obtain ⟨es, c, kb, M⟩ := H.km
  have kh := H.kh
  have HH := Lib.hid H
  have HO := Lib.hid hO
  have HT := Lib.hid hT
  have HC := Lib.hid hC
  have HN := Lib.hid hnone
  have hlk : ∀ wq b', wq.heap[mb]? = some (.map es c) → (Instr.lookup 108 (.map (some mb)) (.int .i64 id.toInt) b').run Tryd.prog wq = _ := fun wq b' hq => M.lookup idT Tryd.underlying108 (z := .pointer none) (fun w => by kernel_rfl) wq hq id b'
  simp only [HN.out, Option.map_none, Option.getD_none, Option.isSome_none] at hlk
  have HLK := Lib.hid hlk
  have hbn := bldN r id
  clear H hO hT hC hid hlk hnone
  show Calls Tryd.prog _ #[ptrV h, .agg #[.int .u64 (r.p.toNat : Int), .int .u64 (r.n.toNat : Int)], .int .i64 id.toInt] w _
  go_enter Tryd.func33, Tryd.ntmps33
  go_upto_region 0 with fail
  have Lkh := lt_size kh
  have Lkb := lt_size kb
  refine wp_pass0 (C := fun _ _ _ => False) (κ := fun i => [3, 0].getD i 0) [0, 1] (by kernel_rfl) (by kernel_rfl) (fun _ _ d _ _ h => by cases d <;> first | exact h | exact absurd h (hP _ _ _)) ?_
  (refine TD.box (v := ?v1) (by simp only [zA, zB, zC]; rfl) rfl ?hw1 rfl rfl ?hx1 (fun p4 hp4 => ?hn1); (case hw1 => rfl); (case hx1 => (simp only [Act.eval, zD, zA, zB, zC, zE]; (try rfl))); (try simp only [Act.put, zF, zG, zH]))
  (refine TD.val0 (v := ?v2) (by simp only [zA, zB, zC]; rfl) rfl ?hw2 (fun w1 => ?hy2) ?hn2; (case hw2 => rfl); (case hy2 => (go_simp; (try with_reducible rfl))); (try simp only [Act.put, zF, zG, zH]))
  refine TD.nil (fun w1 hr => ?_)
  have kh := hr.mod.at kh (fun h => h)
  have kb := hr.mod.at kb (fun h => h)
  have kp4 := hr.box p4 _ (by first | exact Bx.set_same _ _ _ | (simp only [Bx.set_same]; rfl)); dsimp only [Value.cells] at kp4; obtain ⟨gp4, kp4⟩ := kp4
  have m1 := hr.mod
  clear hr
  go_wp2_with fail
  go_at_call 55
  refine (there_c kh).mono ?_
  rintro e w2 ⟨rfl, rfl⟩
  go_upto_region 3 with fail
  have hl : ∀ wq, Mod (fun _ => False) w2 wq → (Instr.lookup 108 (.map (some mb)) (.int .i64 id.toInt) true).run Tryd.prog wq = .ok (.tuple #[.pointer none, .bool false]) wq := fun wq hq => HLK.out wq true (hq.at0 kb)
  have Lkh := lt_size kh
  have Lkb := lt_size kb
  have Lkp4 := lt_size kp4
  refine wp_pass0 (C := fun _ _ _ => False) (κ := fun i => [0, 0, 0, 1, 0, 1, 0, 0, 0, 0, 0].getD i 0) [0, 1, 2, 3, 4, 5, 6, 7, 8, 9, 10] (by kernel_rfl) (by kernel_rfl) (fun _ _ d _ _ h => by cases d <;> first | exact h | exact absurd h (hP _ _ _)) ?_
  (refine TD.val0 (v := ?v3) (by simp only [zA, zB, zC]; rfl) rfl ?hw3 (fun w1 => ?hy3) ?hn3; (case hw3 => rfl); (case hy3 => (go_simp; (try with_reducible rfl))); (try simp only [Act.put, zF, zG, zH]))
  (refine TD.val0 (v := ?v4) (by simp only [zA, zB, zC]; rfl) rfl ?hw4 (fun w1 => ?hy4) ?hn4; (case hw4 => rfl); (case hy4 => (go_simp; (try with_reducible rfl))); (try simp only [Act.put, zF, zG, zH]))
  (refine TD.val0 (v := ?v5) (by simp only [zA, zB, zC]; rfl) rfl ?hw5 (fun w1 => ?hy5) ?hn5; (case hw5 => rfl); (case hy5 => (go_simp; (try with_reducible rfl))); (try simp only [Act.put, zF, zG, zH]))
  (refine TD.load (v := ?v6) (p := ?p6) (Mod.refl _ _) (by simp only [zA, zB, zC]; rfl) rfl ?hw6 rfl ?hx6 (fun wq hSq => ?hy6) ?hn6; (case hw6 => rfl); (case hx6 => (simp only [Act.eval, zD, zA, zB, zC, zE]; (try rfl))); (case hy6 => (have khq := hSq.at kh (fun h => h); have kbq := hSq.at kb (fun h => h); have kp4q := hSq.at kp4 (fun h => h); go_simp; (try with_reducible rfl))); (try simp only [Act.put, zF, zG, zH]))
  (refine TD.val0 (v := ?v7) (by simp only [zA, zB, zC]; rfl) rfl ?hw7 (fun w1 => ?hy7) ?hn7; (case hw7 => rfl); (case hy7 => (go_simp; (try with_reducible rfl))); (try simp only [Act.put, zF, zG, zH]))
  (refine TD.lookup (v := ?v8) (p := ?p8) (q := ?q8) (Mod.refl _ _) (by simp only [zA, zB, zC]; rfl) rfl ?hw8 rfl ?hx8 ?hz8 (fun wq hSq => ?hy8) ?hn8; (case hw8 => rfl); (case hx8 => (simp only [Act.eval, zD, zA, zB, zC, zE]; (try rfl))); (case hz8 => (simp only [Act.eval, zD, zA, zB, zC, zE]; (try rfl))); (case hy8 => (rw [hl wq hSq]; (try with_reducible rfl))); (try simp only [Act.put, zF, zG, zH]))
  (refine TD.val0 (v := ?v9) (by simp only [zA, zB, zC]; rfl) rfl ?hw9 (fun w1 => ?hy9) ?hn9; (case hw9 => rfl); (case hy9 => (go_simp; (try with_reducible rfl))); (try simp only [Act.put, zF, zG, zH]))
  (refine TD.val0 (v := ?v10) (by simp only [zA, zB, zC]; rfl) rfl ?hw10 (fun w1 => ?hy10) ?hn10; (case hw10 => rfl); (case hy10 => (go_simp; (try with_reducible rfl))); (try simp only [Act.put, zF, zG, zH]))
  (refine TD.val0 (v := ?v11) (by simp only [zA, zB, zC]; rfl) rfl ?hw11 (fun w1 => ?hy11) ?hn11; (case hw11 => rfl); (case hy11 => (go_simp; (try with_reducible rfl))); (try simp only [Act.put, zF, zG, zH]))
  (refine TD.val0 (v := ?v12) (by simp only [zA, zB, zC]; rfl) rfl ?hw12 (fun w1 => ?hy12) ?hn12; (case hw12 => rfl); (case hy12 => (go_simp; (try with_reducible rfl))); (try simp only [Act.put, zF, zG, zH]))
  (refine TD.val0 (v := ?v13) (by simp only [zA, zB, zC]; rfl) rfl ?hw13 (fun w1 => ?hy13) ?hn13; (case hw13 => rfl); (case hy13 => (go_simp; (try with_reducible rfl))); (try simp only [Act.put, zF, zG, zH]))
  refine TD.nil (fun w3 hr => ?_)
  have kh := hr.mod.at kh (fun h => h)
  have kb := hr.mod.at kb (fun h => h)
  have kp4 := hr.mod.at kp4 (fun h => h)
  have m3 := m1.then0 hr.mod
  clear hr hl
  go_upto_region 6 with fail
  have Lkh := lt_size kh
  have Lkb := lt_size kb
  have Lkp4 := lt_size kp4
  refine wp_pass0 (C := fun _ _ _ => False) (κ := fun i => [1, 0, 0, 3, 0].getD i 0) [0, 1, 2, 3, 4] (by kernel_rfl) (by kernel_rfl) (fun _ _ d _ _ h => by cases d <;> first | exact h | exact absurd h (hP _ _ _)) ?_
  (refine TD.load (v := ?v14) (p := ?p14) (Mod.refl _ _) (by simp only [zA, zB, zC]; rfl) rfl ?hw14 rfl ?hx14 (fun wq hSq => ?hy14) ?hn14; (case hw14 => rfl); (case hx14 => (simp only [Act.eval, zD, zA, zB, zC, zE]; (try rfl))); (case hy14 => (have khq := hSq.at kh (fun h => h); have kbq := hSq.at kb (fun h => h); have kp4q := hSq.at kp4 (fun h => h); go_simp; (try with_reducible rfl))); (try simp only [Act.put, zF, zG, zH]))
  (refine TD.val0 (v := ?v15) (by simp only [zA, zB, zC]; rfl) rfl ?hw15 (fun w1 => ?hy15) ?hn15; (case hw15 => rfl); (case hy15 => (go_simp; (try with_reducible rfl))); (try simp only [Act.put, zF, zG, zH]))
  (refine TD.build (v := ?v16) (ps := ?p16) (by simp only [zA, zB, zC]; rfl) rfl ?hw16 rfl ?hx16 (fun w1 => ?hy16) ?hn16; (case hw16 => rfl); (case hx16 => (simp only [List.map_toArray, List.map_cons, List.map_nil, Act.eval, zD, zA, zB, zC, zE]; (try rfl))); (case hy16 => (rw [hbn]; (try with_reducible rfl))); (try simp only [Act.put, zF, zG, zH]))
  (refine TD.box (v := ?v17) (by simp only [zA, zB, zC]; rfl) rfl ?hw17 rfl rfl ?hx17 (fun p28 hp28 => ?hn17); (case hw17 => rfl); (case hx17 => (simp only [Act.eval, zD, zA, zB, zC, zE]; (try rfl))); (try simp only [Act.put, zF, zG, zH]))
  (refine TD.val0 (v := ?v18) (by simp only [zA, zB, zC]; rfl) rfl ?hw18 (fun w1 => ?hy18) ?hn18; (case hw18 => rfl); (case hy18 => (go_simp; (try with_reducible rfl))); (try simp only [Act.put, zF, zG, zH]))
  refine TD.nil (fun w4 hr => ?_)
  have kh := hr.mod.at kh (fun h => h)
  have kb := hr.mod.at kb (fun h => h)
  have kp4 := hr.mod.at kp4 (fun h => h)
  have kp28 := hr.box p28 _ (by first | exact Bx.set_same _ _ _ | (simp only [Bx.set_same]; rfl)); dsimp only [Value.cells] at kp28; obtain ⟨gp28, kp28⟩ := kp28
  have m4 := m3.then0 hr.mod
  have s4 := hr.mod.size
  clear hr hbn
  have hbp : p28 ≠ mb := ne_of_obj kp28 kb (by simp)
  have hbh : h ≠ mb := ne_of_obj kh kb (by simp)
  go_upto_region 7 with fail
  have Lkh := lt_size kh
  have Lkp28 := lt_size kp28
  have Lkb := lt_size kb
  refine wp_pass0 (C := fun _ _ _ => False) (κ := fun i => [0, 0, 0, 1, 0, 0, 5].getD i 0) [0, 1, 2, 3, 4, 5, 6] (by kernel_rfl) (by kernel_rfl) (fun _ _ d _ _ h => by cases d <;> first | exact h | exact absurd h (hP _ _ _)) ?_
  (refine TD.val0 (v := ?v19) (by simp only [zA, zB, zC]; rfl) rfl ?hw19 (fun w1 => ?hy19) ?hn19; (case hw19 => rfl); (case hy19 => (go_simp; (try with_reducible rfl))); (try simp only [Act.put, zF, zG, zH]))
  (refine TD.val0 (v := ?v20) (by simp only [zA, zB, zC]; rfl) rfl ?hw20 (fun w1 => ?hy20) ?hn20; (case hw20 => rfl); (case hy20 => (go_simp; (try with_reducible rfl))); (try simp only [Act.put, zF, zG, zH]))
  (refine TD.val0 (v := ?v21) (by simp only [zA, zB, zC]; rfl) rfl ?hw21 (fun w1 => ?hy21) ?hn21; (case hw21 => rfl); (case hy21 => (go_simp; (try with_reducible rfl))); (try simp only [Act.put, zF, zG, zH]))
  (refine TD.load (v := ?v22) (p := ?p22) (Mod.refl _ _) (by simp only [zA, zB, zC]; rfl) rfl ?hw22 rfl ?hx22 (fun wq hSq => ?hy22) ?hn22; (case hw22 => rfl); (case hx22 => (simp only [Act.eval, zD, zA, zB, zC, zE]; (try rfl))); (case hy22 => (have khq := hSq.at kh (fun h => h); have kp28q := hSq.at kp28 (fun h => h); have kbq := hSq.at kb (fun h => h); go_simp; (try with_reducible rfl))); (try simp only [Act.put, zF, zG, zH]))
  (refine TD.val0 (v := ?v23) (by simp only [zA, zB, zC]; rfl) rfl ?hw23 (fun w1 => ?hy23) ?hn23; (case hw23 => rfl); (case hy23 => (go_simp; (try with_reducible rfl))); (try simp only [Act.put, zF, zG, zH]))
  (refine TD.val0 (v := ?v24) (by simp only [zA, zB, zC]; rfl) rfl ?hw24 (fun w1 => ?hy24) ?hn24; (case hw24 => rfl); (case hy24 => (go_simp; (try with_reducible rfl))); (try simp only [Act.put, zF, zG, zH]))
  refine TD.eff (by simp only [zA, zB, zC]; rfl) rfl (fun wE hr => ?_)
  have kh := hr.mod.at0 kh
  have kp28 := hr.mod.at0 kp28
  have kb := hr.mod.at0 kb
  have mE := hr.mod
  obtain ⟨es25, cl25, hrun25, Mkb⟩ := M.update idT Tryd.underlying108 wE kb id p28
  (refine eff_update (X := ?X25) (Y := ?Y25) (Z := ?Z25) (w' := ?w25) (by simp only [zA, zB, zC]; rfl) ?hw25 rfl ?hx25 ?hz25 ?hv25 ?hy25 ?hn25; (case hw25 => rfl); (case hx25 => (simp only [Act.eval, zD, zA, zB, zC, zE]; (try rfl))); (case hz25 => (simp only [Act.eval, zD, zA, zB, zC, zE]; (try rfl))); (case hv25 => (simp only [Act.eval, zD, zA, zB, zC, zE]; (try rfl))); (case hy25 => exact hrun25))
  (first | refine TE.nil_set kb (fun w5 kb mS => ?_) | refine TE.nil_setCell kb (fun w5 kb mS => ?_))
  (try simp only [Array.setIfInBounds, zF, zG, zH] at kb)
  have kh := mS.at_ne kh (by omega)
  have kp28 := mS.at_ne kp28 (by omega)
  have m5 : Mod (fun i => i = mb) w w5 := ((m4.then0 mE).mono (fun _ _ h => h.elim)).then mS (fun _ _ h => h)
  have hg28 : w.heap.size ≤ p28 := Nat.le_trans m3.size gp28
  clear mE mS
  go_upto_region 8 with fail
  have Lkh := lt_size kh
  have Lkb := lt_size kb
  have Lkp28 := lt_size kp28
  refine wp_pass0 (C := fun _ _ _ => False) (κ := fun i => [0, 0, 0, 1, 0].getD i 0) [0, 1, 2, 3, 4] (by kernel_rfl) (by kernel_rfl) (fun _ _ d _ _ h => by cases d <;> first | exact h | exact absurd h (hP _ _ _)) ?_
  (refine TD.val0 (v := ?v26) (by simp only [zA, zB, zC]; rfl) rfl ?hw26 (fun w1 => ?hy26) ?hn26; (case hw26 => rfl); (case hy26 => (go_simp; (try with_reducible rfl))); (try simp only [Act.put, zF, zG, zH]))
  (refine TD.val0 (v := ?v27) (by simp only [zA, zB, zC]; rfl) rfl ?hw27 (fun w1 => ?hy27) ?hn27; (case hw27 => rfl); (case hy27 => (go_simp; (try with_reducible rfl))); (try simp only [Act.put, zF, zG, zH]))
  (refine TD.val0 (v := ?v28) (by simp only [zA, zB, zC]; rfl) rfl ?hw28 (fun w1 => ?hy28) ?hn28; (case hw28 => rfl); (case hy28 => (go_simp; (try with_reducible rfl))); (try simp only [Act.put, zF, zG, zH]))
  (refine TD.load (v := ?v29) (p := ?p29) (Mod.refl _ _) (by simp only [zA, zB, zC]; rfl) rfl ?hw29 rfl ?hx29 (fun wq hSq => ?hy29) ?hn29; (case hw29 => rfl); (case hx29 => (simp only [Act.eval, zD, zA, zB, zC, zE]; (try rfl))); (case hy29 => (have khq := hSq.at kh (fun h => h); have kbq := hSq.at kb (fun h => h); have kp28q := hSq.at kp28 (fun h => h); go_simp; (try with_reducible rfl))); (try simp only [Act.put, zF, zG, zH]))
  (refine TD.val0 (v := ?v30) (by simp only [zA, zB, zC]; rfl) rfl ?hw30 (fun w1 => ?hy30) ?hn30; (case hw30 => rfl); (case hy30 => (go_simp; (try with_reducible rfl))); (try simp only [Act.put, zF, zG, zH]))
  refine TD.nil (fun w6 hr => ?_)
  have kh := hr.mod.at kh (fun h => h)
  have kb := hr.mod.at kb (fun h => h)
  have kp28 := hr.mod.at kp28 (fun h => h)
  have m6 := m5.then0 hr.mod
  clear hr
  rw [put_none HN.out] at Mkb
  have nL : ∀ (k : Bool) (s : Nat) (v : Value) (L : List Nat) (o : Nat → Int), Sd w s k v L nd o → p28 ∉ L := fun k s v L o hS hm => by
    obtain ⟨i, hi⟩ := List.mem_iff_getElem?.1 hm
    have := lt_size (hS.nodes i _ hi)
    omega
  have n0 := nL _ _ _ _ _ HH.out.d0
  have n1 := nL _ _ _ _ _ HH.out.d1
  have km6 : ∃ es c, w6.heap[mb]? = some (.map es c) ∧ MapIs idv ptrV es c (m ++ [(id, p28)]) := ⟨_, _, kb, Mkb⟩
  have sm : ∀ (k : Bool) (s : Nat) (v : Value) (L : List Nat) (o : Nat → Int), Sd w s k v L nd o → Sd w6 s k v L nd o := fun k s v L o hS => by
    obtain ⟨es0, c0, kb0, _⟩ := HH.out.km
    refine hS.mod m6 (fun e => ?_) (fun g hg e => ?_) (fun b hb e => ?_)
    · exact ne_of_obj hS.side kb0 (by simp) e
    · obtain ⟨cur, kg⟩ := own_block hS.own hg
      exact ne_of_obj kg kb0 (by simp) e
    · obtain ⟨i, hi⟩ := List.mem_iff_getElem?.1 hb
      exact ne_of_obj (hS.nodes i _ hi) kb0 (by simp) e
  have hup : ∀ b, b ≠ p28 → upd nd p28 ⟨r, id⟩ b = nd b := fun b hb => if_neg hb
  have HP0 : Hid (PuS w h s0 s1 mb v0 v1 L0 L1 (upd nd p28 ⟨r, id⟩) (m ++ [(id, p28)]) p28 0 w6) := Lib.hid (by
    refine ⟨kh, km6, (sm _ _ _ _ _ HH.out.d0).congr (fun b hb => hup b (fun e => n0 (e ▸ hb))) (fun b hb => if_neg (fun e : b = p28 => n0 (e ▸ hb))), (sm _ _ _ _ _ HH.out.d1).congr (fun b hb => hup b (fun e => n1 (e ▸ hb))) (fun b hb => rfl), ?_, m6⟩
    rw [show upd nd p28 ⟨r, id⟩ p28 = ⟨r, id⟩ from if_pos rfl]
    exact kp28)
  have HN0 := Lib.hid n0
  have HN1 := Lib.hid n1
  have HUP := Lib.hid hup
  have HG := Lib.hid hg28
  clear kp28 kb Mkb nL n0 n1 km6 sm hup hg28 kh kp4 HLK
  go_wp2_with fail
  go_loopw [39, 11] (fun s39 _ ws => ∃ j : Nat, j ≤ 2 ∧ s39 = .int .i64 (j : Int) ∧ Hid (PuS w h s0 s1 mb v0 v1 L0 L1 (upd nd p28 ⟨r, id⟩) (m ++ [(id, p28)]) p28 j ws)) (fun s39 _ _ => 2 - (intOf s39).toNat)
  case atStart => exact ⟨0, by omega, rfl, HP0⟩
  case round =>
    obtain ⟨j, hj, rfl, HP⟩ := hrel
    rcases (show j = 0 ∨ j = 1 ∨ j = 2 by omega) with rfl | rfl | rfl
    · go_wp2_with fail
      go_at_call 58
      obtain ⟨_, _, d0, _, kn, _⟩ := _root_.id HP.out
      have kn2 : wr.heap[p28]? = some (.cells (ndc false (upd nd p28 ⟨r, id⟩ p28) 0 (if p28 = p28 then 0 else (L1.idxOf p28 : Int))) 131 (0, 0)) := by
        rw [if_pos rfl]
        exact kn
      refine (hpush_c d0 kn2 HN0.out (by rw [HH.out.p0.length_eq, List.length_map]; have := HC.out; rw [List.length_map] at this; omega) (HH.out.ok0.congr (fun a ha b hb => by
        unfold lessOf
        rw [HUP.out a (fun e => HN0.out (e ▸ ha)), HUP.out b (fun e => HN0.out (e ▸ hb))]))).mono ?_
      rintro e w7 ⟨rfl, v0', L0', hS, hok, hperm, hm, hv⟩
      have HX := Lib.hid (PuS.one HP.out HH.out.ss HH.out.ap HN1.out (HH.out.p1.trans HH.out.p0.symm) hS hok hperm hm hv)
      clear hS hok hperm hm hv kn kn2 d0
      go_wp2_with fail
      go_roundw
      case rel => exact ⟨1, by omega, by go_num, HX⟩
      case measure => simp [intOf]
    · go_wp2_with fail
      go_at_call 58
      obtain ⟨kh, km, v0', L0', P1⟩ := _root_.id HP.out
      obtain ⟨i, kn, rfl⟩ := P1.2.2.1
      refine (hpush_c P1.2.1 kn HN1.out (by rw [HH.out.p1.length_eq, List.length_map]; have := HC.out; rw [List.length_map] at this; omega) (HH.out.ok1.congr (fun a ha b hb => by
        unfold lessOf
        rw [HUP.out a (fun e => HN1.out (e ▸ ha)), HUP.out b (fun e => HN1.out (e ▸ hb))]))).mono ?_
      rintro e w7 ⟨rfl, v1', L1', hS, hok, hperm, hm, hv⟩
      have HX := Lib.hid (Pu1.two kh km P1 HH.out.ss HN1.out (HH.out.p1.trans HH.out.p0.symm) (by
          rw [List.map_append]
          exact HH.out.p0.append_right _) (fun i b hb => by
          rcases List.mem_append.1 hb with hb | hb
          · have : b ∈ L0 := HH.out.p0.mem_iff.2 (List.mem_map.2 ⟨_, hb, rfl⟩)
            rw [HUP.out b (fun e => HN0.out (e ▸ this))]
            exact HH.out.ids i b hb
          · cases List.mem_singleton.1 hb
            show (upd nd p28 ⟨r, id⟩ p28).id = id
            rw [show upd nd p28 ⟨r, id⟩ p28 = ⟨r, id⟩ from if_pos rfl]) hS hok hperm hm hv)
      clear hS hok hperm hm hv kn kh km P1
      go_wp2_with fail
      go_roundw
      case rel => exact ⟨2, by omega, by go_num, HX⟩
      case measure => simp [intOf]
    · go_wp2_with fail
      go_ret
      obtain ⟨_, _, v0', L0', v1', L1', hHp, hperm, hm, hv0, hv1⟩ := HP.out
      refine ⟨rfl, fun i => T i ∨ (w.heap.size ≤ i ∧ i < wr.heap.size), ⟨s0, s1, mb, v0', v1', L0', L1', _, _, hHp, ?_, fun i hi => ?_⟩, hm.mono (fun i hlt e => ?_), fun i hi => hi.elim .inl (fun h => .inr h.1), fun i hi => hi.elim (fun h => Nat.lt_of_lt_of_le (HT.out i h) hm.size) (fun h => h.2)⟩
      · rw [List.map_append]
        congr 1
        · refine List.map_congr_left (fun p hp => ?_)
          have : p.2 ∈ L0 := HH.out.p0.mem_iff.2 (List.mem_map.2 ⟨_, hp, rfl⟩)
          rw [HUP.out _ (fun e => HN0.out (e ▸ this))]
        · show [_] = [upd nd p28 ⟨r, id⟩ p28]
          rw [show upd nd p28 ⟨r, id⟩ p28 = ⟨r, id⟩ from if_pos rfl]
      · rcases hi with e | e | e | e | e | e | e
        · exact .inl (HO.out i (.inl e))
        · exact .inl (HO.out i (.inr (.inl e)))
        · exact .inl (HO.out i (.inr (.inr (.inl e))))
        · exact .inl (HO.out i (.inr (.inr (.inr (.inl e)))))
        · rcases hv0 with hv | ⟨g, hv, hg⟩
          · rw [hv] at e
            exact .inl (HO.out i (.inr (.inr (.inr (.inr (.inl e))))))
          · have := (hHp.d0.own.lt _ hv).2
            rw [hv] at e
            cases e
            exact .inr ⟨hg, this⟩
        · rcases hv1 with hv | ⟨g, hv, hg⟩
          · rw [hv] at e
            exact .inl (HO.out i (.inr (.inr (.inr (.inr (.inr (.inl e)))))))
          · have := (hHp.d1.own.lt _ hv).2
            rw [hv] at e
            cases e
            exact .inr ⟨hg, this⟩
        · rcases List.mem_append.1 (hperm.mem_iff.1 e) with h1 | h1
          · exact .inl (HO.out i (.inr (.inr (.inr (.inr (.inr (.inr h1)))))))
          · obtain rfl := List.mem_singleton.1 h1
            obtain ⟨j, hj⟩ := List.mem_iff_getElem?.1 e
            exact .inr ⟨HG.out, lt_size (hHp.d0.nodes j _ hj)⟩
      · have hL1 : ∀ b, b ∈ L1 → b ∈ L0 := fun b hb => HH.out.p0.mem_iff.2 (HH.out.p1.mem_iff.1 hb)
        have := HG.out
        rcases e with e | e | e | e | e | e | e | e
        · exact HO.out i (.inr (.inr (.inr (.inl e))))
        · exact HO.out i (.inr (.inl e))
        · exact HO.out i (.inr (.inr (.inl e)))
        · omega
        · exact HO.out i (.inr (.inr (.inr (.inr (.inl e)))))
        · exact HO.out i (.inr (.inr (.inr (.inr (.inr (.inl e))))))
        · exact HO.out i (.inr (.inr (.inr (.inr (.inr (.inr e))))))
        · exact HO.out i (.inr (.inr (.inr (.inr (.inr (.inr (hL1 i e)))))))
end Go.Proofs.YtdeghpmlhcaedaaDoor
