/- Graphs: slices.IndexFunc, slices.DeleteFunc at pointers of nodes: one address is taken out. -/
import Derived.LaidEqlPtr
import Derived.Laws.CopyRow
import Derived.Test.YtffcnnogkpdinaaGw
namespace Go.Proofs.Ytffcnnogkpdinaa
open Go.RowKit
open Go.ChangeMaps (setBlock)
set_option linter.unusedSimpArgs false
set_option linter.unusedVariables false
attribute [local go_sem] cell_blk frozen_blk one_int one_bool one_ptr one_slice one_map Value.cells
theorem infoN : ∃ j, Try.prog.info? 66 = some j ∧ j.size ≠ 0 := by
  obtain ⟨j, h1, h2⟩ : ∃ j, (Try.prog.info? 66) = some j ∧ j.size = 6 := by
    cases h : Try.prog.info? 66 with
    | none =>
      have : (Try.prog.info? 66).map (·.size) = some 6 := by kernel_rfl
      rw [h] at this
      cases this
    | some j =>
      have : (Try.prog.info? 66).map (·.size) = some 6 := by kernel_rfl
      rw [h] at this
      exact ⟨j, rfl, by simpa using this⟩
  exact ⟨j, h1, by omega⟩
/-- A node's block. -/
def IsNd (w : World) (y : Nat) : Prop := ∃ cs, w.heap[y]? = some (.cells cs 66 (0, 0))
theorem eqNode {w : World} {a b : Nat} (ha : IsNd w a) (hb : IsNd w b) : (binOp .eql 62 (ptrV a) (ptrV b)).run Try.prog w = .ok (.bool (decide (a = b))) w := by
  obtain ⟨j, hj, hs⟩ := infoN
  obtain ⟨ca, ha⟩ := ha
  obtain ⟨cb, hb⟩ := hb
  by_cases h : a = b
  · subst h
    rw [decide_eq_true rfl]
    exact run_eql_ptr_same w _ Try.underlying62 hj
  · rw [decide_eq_false h]
    exact run_eql_ptr_other w Try.underlying62 hj hs (fun e => h (by cases e; rfl)) ha hb
abbrev popP (B : Nat) : Value := .func (.func 32) #[] #[.pointer (some ⟨B, 0, none⟩)]
theorem pop1_c (y b B : Nat) (w : World) (hy : IsNd w y) (hb : IsNd w b) (h : w.heap[B]? = some (.cells #[ptrV b] 62 (0, 0))) : Calls Try.prog 32 #[ptrV y, .pointer (some ⟨B, 0, none⟩)] w fun e w' => e = .returned (.bool (decide (y = b))) ∧ w' = w := by
  have he := eqNode hy hb
  clear hy hb
  go_enter Try.func32, Try.ntmps32
  go_wp2_with fail
  go_ret
  exact ⟨rfl, rfl⟩
set_option maxRecDepth 20000 in
set_option maxHeartbeats 1600000 in
theorem indexF_c {w : World} {v : Value} {L : List Nat} (hO : SlOwn pc 1 62 w 0 v L) (hlen : L.length ≤ 1000000) (b B : Nat) (kB : w.heap[B]? = some (.cells #[ptrV b] 62 (0, 0))) (hb : IsNd w b) (hn : ∀ y ∈ L, IsNd w y) :
    Calls Try.prog 40 #[v, popP B] w fun e w' => w' = w ∧ ((e = .returned (.int .i64 (-1)) ∧ b ∉ L) ∨ ∃ i : Nat, L[i]? = some b ∧ b ∉ L.take i ∧ e = .returned (.int .i64 (i : Int))) := by
  have hcell : ∀ (i y : Nat), L[i]? = some y → ∃ g cap cur, v = .slice (some ⟨g, 0, none⟩) L.length cap ∧ w.heap[g]? = some (.cells cur 62 (0, 0)) ∧ cur[i]? = some (ptrV y) := fun i y hy => by
    have hL : L ≠ [] := fun e => by rw [e] at hy; cases hy
    obtain ⟨g, cap, cur, e, _, kg, _, _, hc, _⟩ := own_row hO hL
    exact ⟨g, cap, cur, e, kg, hc i y hy⟩
  obtain ⟨a, c, rfl, _⟩ := hO.at ptrT
  have HC := Lib.hid hcell
  have HNd := Lib.hid (And.intro hb hn)
  clear hcell hO hb hn
  go_enter Try.func40, Try.ntmps40
  go_wp2_with fail
  go_loopw [8] (fun s8 ws => ∃ i : Nat, i ≤ L.length ∧ s8 = .int .i64 i ∧ Hid (b ∉ L.take i) ∧ ws = w) (fun s8 _ => L.length - (intOf s8).toNat)
  case atStart => exact ⟨0, Nat.zero_le _, rfl, Lib.hid (by simp), rfl⟩
  case round =>
    obtain ⟨i, hi, rfl, HN, rfl⟩ := hrel
    by_cases hlt : i < L.length
    · obtain ⟨y, hy⟩ : ∃ y, L[i]? = some y := ⟨_, List.getElem?_eq_getElem hlt⟩
      obtain ⟨g, cap, cur, e, kg, hcx⟩ := HC.out i y hy
      cases e
      have HY := Lib.hid hy
      clear hy
      go_wp2_with fail
      go_at_call 32
      refine (pop1_c y b B _ (HNd.out.2 y (List.mem_of_getElem? HY.out)) HNd.out.1 kB).mono ?_
      rintro e w2 ⟨rfl, rfl⟩
      by_cases hyb : y = b
      · have hd := decide_eq_true hyb
        have HB := Lib.hid hyb
        clear hyb
        go_wp2_with fail
        go_ret
        exact ⟨rfl, .inr ⟨i, by rw [HY.out, HB.out], HN.out, rfl⟩⟩
      · have hd := decide_eq_false hyb
        have HB := Lib.hid hyb
        clear hyb
        go_wp2_with fail
        go_roundw
        case rel =>
          refine ⟨i + 1, by omega, by go_num, Lib.hid ?_, by first | rfl | trivial⟩
          rw [List.take_add_one, HY.out]
          intro h
          rcases List.mem_append.1 h with h | h
          · exact HN.out h
          · simp at h
            exact HB.out h.symm
        case measure => simp [intOf]; omega
    · obtain rfl : i = L.length := by omega
      go_wp2_with fail
      go_ret
      refine ⟨rfl, .inl ⟨rfl, ?_⟩⟩
      have := HN.out
      rwa [List.take_length] at this
theorem zeroP (w : World) : (zeroValue 62).run Try.prog w = .ok (.pointer none) w := by kernel_rfl
theorem clear_run {w : World} {g o n cap : Nat} {cur : Array Value} (hg : w.heap[g]? = some (.cells cur 62 (0, 0))) (hn : 0 < n) (hle : o + n ≤ cur.size) (ty : TypeId) : ∃ cur' w', (Builtin.clear_ #[64] ty #[.slice (some ⟨g, o, none⟩) n cap]).run Try.prog w = .ok (.tuple #[]) w' ∧ w'.heap[g]? = some (.cells cur' 62 (0, 0)) ∧ cur'.size = cur.size ∧ (∀ i, i < o → cur'[i]? = cur[i]?) ∧ Mod (fun i => i = g) w w' := by
  have hz : (Builtin.zeroCells (Value.pointer none).cells n).toList = List.replicate n (.pointer none) := by
    unfold Builtin.zeroCells
    apply List.ext_getElem
    · simp [Value.cells]
    · intro i h1 h2
      simp [Value.cells, Nat.mod_one]
  have hst := run_storeCells_at Try.prog g o 62 (List.replicate n (.pointer none)) 0 cur w hg (by simpa using hle) (fun v hv => by
    rw [List.eq_of_mem_replicate hv]
    rfl)
  refine ⟨(cur.toList.take o ++ List.replicate n (Value.pointer none) ++ cur.toList.drop (o + n)).toArray, w.setRow g (cur.toList.take o ++ List.replicate n (Value.pointer none) ++ cur.toList.drop (o + n)).toArray, ?_, setRow_heap w g cur _ _ _ hg, ?_, fun i hi => ?_, ?_⟩
  · obtain ⟨m, rfl⟩ : ∃ m, n = m + 1 := ⟨n - 1, by omega⟩
    unfold Builtin.clear_
    simp [run_underlying Try.underlying64, zeroP, Result.andThen, hz, hst]
  · simp only [List.size_toArray, List.length_append, List.length_take, List.length_drop, List.length_replicate, Array.length_toList]
    omega
  · simp only [List.getElem?_toArray, List.append_assoc]
    rw [List.getElem?_append_left (by simp; omega), List.getElem?_take, if_pos (by omega)]
    simp
  · refine ⟨rfl, rfl, rfl, ?_, fun i hi hne => ?_⟩
    · simp [World.setRow]
    · simp only [World.setRow]
      rw [Array.getElem?_modify, if_neg (fun e => hne e.symm)]
theorem own_mk {w : World} {g cap : Nat} {cur : Array Value} {L : List Nat} (hg : w.heap[g]? = some (.cells cur 62 (0, 0))) (hc : L.length ≤ cap) (hm : cap ≤ maxLen) (hs : cap = cur.size) (h : ∀ (i b : Nat), L[i]? = some b → cur[i]? = some (ptrV b)) : SlOwn pc 1 62 w 0 (.slice (some ⟨g, 0, none⟩) L.length cap) L := by
  refine ⟨?_, .inr ⟨g, cap, cur, rfl, Nat.zero_le _, hg, hc, hm, by omega, ?_⟩⟩
  · rw [cellsOf_pc]; simp
  · rw [cellsOf_pc, Nat.mul_one]
    apply List.ext_getElem?
    intro i
    rw [List.getElem?_take, List.getElem?_map]
    by_cases hi : i < L.length
    · rw [if_pos hi, List.getElem?_eq_getElem hi]
      have := h i _ (List.getElem?_eq_getElem hi)
      simpa using this
    · rw [if_neg hi, List.getElem?_eq_none (by omega)]
      rfl
set_option maxRecDepth 20000 in
set_option maxHeartbeats 3200000 in
/-- **slices.DeleteFunc, of one address.** -/
theorem deleteF_c {w : World} {v : Value} {L : List Nat} (hO : SlOwn pc 1 62 w 0 v L) (hlen : L.length ≤ 1000000) (b B : Nat) (kB : w.heap[B]? = some (.cells #[ptrV b] 62 (0, 0))) (hB : v.ownBlock ≠ some B) (hb : IsNd w b) (hn : ∀ y ∈ L, IsNd w y) :
    Calls Try.prog 31 #[v, popP B] w fun e w' => ∃ v', e = .returned v' ∧ SlOwn pc 1 62 w' 0 v' (L.filter fun y => decide (y ≠ b)) ∧ Mod (fun i => v.ownBlock = some i) w w' ∧ v'.ownBlock = v.ownBlock := by
  have hidx := indexF_c hO hlen b B kB hb hn
  by_cases hbL : b ∈ L
  · have hL : L ≠ [] := fun e => by rw [e] at hbL; cases hbL
    obtain ⟨g, cap, cur, rfl, _, kg, hcap, hcs, hcur, hback⟩ := own_row hO hL
    have hgB : g ≠ B := fun e => hB (by rw [e]; rfl)
    have HNd := Lib.hid (And.intro hb (And.intro hn hbL))
    have HCu := Lib.hid hcur
    have HO := Lib.hid hO
    have hmx : cap ≤ maxLen := by
      rcases hO.2 with ⟨h, _⟩ | ⟨g', cap', cur', h, _, _, _, h2, _⟩
      · cases h
      · cases h; exact h2
    have HMX := Lib.hid hmx
    have HI := Lib.hid hidx
    have HCS := Lib.hid hcs
    have HBK := Lib.hid hback
    clear hcs hidx hb hn hcur hback hO hL hB hmx hbL
    go_enter Try.func31, Try.ntmps31
    go_wp2_with fail
    go_at_call 40
    refine HI.out.mono ?_
    rintro e w2 ⟨rfl, ⟨rfl, h⟩ | ⟨i0, h1, h2, rfl⟩⟩
    · exact absurd HNd.out.2.2 h
    have hi0 := (List.getElem?_eq_some_iff.1 h1).1
    have HX := Lib.hid (And.intro h1 h2)
    clear h1 h2
    have hdm : ((i0 : Int) == -1) = false := by
      rw [beq_eq_false_iff_ne]
      omega
    go_wp2_with fail
    go_loopw [5, 6] (fun s5 s6 ws => ∃ (j i : Nat) (cur' : Array Value), s5 = .int .i64 i ∧ s6 = .int .i64 j ∧ i < j ∧ j ≤ L.length ∧ Hid (((L.take j).filter fun y => decide (y ≠ b)).length = i) ∧ ws.heap[g]? = some (.cells cur' 62 (0, 0)) ∧ Hid (cur'.size = cur.size) ∧
      Hid (∀ (m y : Nat), ((L.take j).filter fun y => decide (y ≠ b))[m]? = some y → cur'[m]? = some (ptrV y)) ∧ Hid (∀ (m y : Nat), j ≤ m → L[m]? = some y → cur'[m]? = some (ptrV y)) ∧ Mod (fun i => i = g) w2 ws) (fun _ s6 _ => L.length - (intOf s6).toNat)
    case atStart =>
      have hf : (L.take (i0 + 1)).filter (fun y => decide (y ≠ b)) = L.take i0 := by
        rw [List.take_add_one, HX.out.1, List.filter_append]
        have hself : (L.take i0).filter (fun y => decide (y ≠ b)) = L.take i0 := List.filter_eq_self.2 (fun y hy => decide_eq_true (fun e : y = b => HX.out.2 (e ▸ hy)))
        rw [hself]
        simp
      refine ⟨i0 + 1, i0, cur, rfl, by go_num, by omega, by omega, Lib.hid (by rw [hf, List.length_take]; omega), kg, Lib.hid rfl, Lib.hid (fun m y h => ?_), Lib.hid (fun m y _ h => HCu.out m y h), Mod.refl _ _⟩
      rw [hf, List.getElem?_take] at h
      split at h
      · exact HCu.out m y h
      · cases h
    case round =>
      obtain ⟨j, i, cur', rfl, rfl, hij, hj, HF, kg', HS, HA, HR, hm⟩ := hrel
      have kB' := hm.at_ne kB (Ne.symm hgB)
      by_cases hlt : j < L.length
      · obtain ⟨y, hy⟩ : ∃ y, L[j]? = some y := ⟨_, List.getElem?_eq_getElem hlt⟩
        have hcx := HR.out j y (Nat.le_refl _) hy
        have HY := Lib.hid hy
        have hsz : i < cur'.size := by
          have := HS.out
          have := HCS.out
          omega
        have hci : ∃ u, cur'[i]? = some u := ⟨_, Array.getElem?_eq_getElem hsz⟩
        obtain ⟨u, hu⟩ := hci
        clear hy
        have hIs : ∀ z, IsNd w2 z → IsNd wr z := fun z ⟨cs, h⟩ => ⟨cs, hm.at_ne h (ne_of_obj h kg (obj_ty (by decide)))⟩
        have HIS := Lib.hid (And.intro (hIs y (HNd.out.2.1 y (List.mem_of_getElem? HY.out))) (hIs b HNd.out.1))
        clear hIs
        go_wp2_with fail
        go_at_call 32
        refine (pop1_c y b B _ HIS.out.1 HIS.out.2 kB').mono ?_
        rintro e w3 ⟨rfl, rfl⟩
        by_cases hyb : y = b
        · have hd := decide_eq_true hyb
          have HB := Lib.hid hyb
          clear hyb
          go_wp2_with fail
          have hf : (L.take (j + 1)).filter (fun y => decide (y ≠ b)) = (L.take j).filter (fun y => decide (y ≠ b)) := by
            rw [List.take_add_one, HY.out, List.filter_append, HB.out]
            simp
          have HFF := Lib.hid hf
          clear hf
          go_roundw
          case rel => exact ⟨j + 1, i, cur', rfl, by go_num, by omega, by omega, Lib.hid (by rw [HFF.out]; exact HF.out), kg', HS, Lib.hid (by rw [HFF.out]; exact HA.out), Lib.hid (fun m z h1 h2 => HR.out m z (by omega) h2), hm⟩
          case measure => simp [intOf]; omega
        · have hd := decide_eq_false hyb
          have HB := Lib.hid hyb
          clear hyb
          go_wp2_with fail
          have hf : (L.take (j + 1)).filter (fun y => decide (y ≠ b)) = (L.take j).filter (fun y => decide (y ≠ b)) ++ [y] := by
            rw [List.take_add_one, HY.out, List.filter_append]
            simp [HB.out]
          have HFF := Lib.hid hf
          have kg2 : (w3.setCell ⟨g, i, none⟩ (ptrV y)).heap[g]? = some (.cells (cur'.setIfInBounds i (ptrV y)) 62 (0, 0)) := by
            rw [setCell_blk kg', heap_setBlock _ _ (lt_size kg')]
          have hm2 : Mod (fun i => i = g) w2 (w3.setCell ⟨g, i, none⟩ (ptrV y)) := hm.setCell _ (fun _ => rfl)
          have HK := Lib.hid (And.intro kg2 hm2)
          clear hf kg2 hm2
          go_roundw
          case rel =>
            refine ⟨j + 1, i + 1, cur'.setIfInBounds i (ptrV y), by go_num, by go_num, by omega, by omega, Lib.hid (by rw [HFF.out, List.length_append, HF.out]; rfl), HK.out.1, Lib.hid (by rw [Array.size_setIfInBounds]; exact HS.out), Lib.hid (fun m z h => ?_), Lib.hid (fun m z h1 h2 => ?_), HK.out.2⟩
            · rw [HFF.out] at h
              rw [Array.getElem?_setIfInBounds]
              by_cases hmi : i = m
              · rw [if_pos hmi, if_pos hsz]
                rw [List.getElem?_append_right (by rw [HF.out]; omega), HF.out, ← hmi, Nat.sub_self] at h
                simp at h
                rw [h]
              · rw [if_neg hmi]
                have hml : m < i := by
                  have := (List.getElem?_eq_some_iff.1 h).1
                  rw [List.length_append, HF.out] at this
                  simp at this
                  omega
                rw [List.getElem?_append_left (by rw [HF.out]; exact hml)] at h
                exact HA.out m z h
            · rw [Array.getElem?_setIfInBounds, if_neg (by omega)]
              exact HR.out m z (by omega) h2
          case measure => simp [intOf]; omega
      · obtain rfl : j = L.length := by omega
        have hF := HF.out
        have hA := HA.out
        rw [List.take_length] at hF hA
        have HFA := Lib.hid (And.intro hF hA)
        have hs : L.length ≤ cur'.size := by have := HS.out; have := HCS.out; omega
        have hd := sl_drop ptrT (g := g) (o := 0) (cap := cap) (len := L.length) (k := i) (by omega) hcap
        have ht := sl_take ptrT (g := g) (o := 0) (cap := cap) (len := L.length) (k := i) (by omega)
        rw [if_neg (by omega)] at hd
        simp only [Nat.zero_add, Nat.mul_one] at hd
        obtain ⟨cur2, w4, hcl, kg4, hs4, hc4, m4⟩ := clear_run (o := i) (n := L.length - i) (cap := cap - i) kg' (by omega) (by omega) 0
        have HC4 := Lib.hid (And.intro hs4 (And.intro hc4 m4))
        clear hF hA hs4 hc4 m4
        go_wp2_with fail
        go_ret
        have hm4 := hm.then HC4.out.2.2 (fun i _ e => e)
        refine ⟨_, rfl, ?_, hm4.mono (fun i _ e => by rw [e]; rfl), rfl⟩
        rw [← HFA.out.1]
        refine own_mk kg4 (by have := HFA.out.1; omega) HMX.out (by rw [HC4.out.1, HS.out, ← HCS.out]) (fun m z h => ?_)
        have hml : m < i := by
          have h1 := (List.getElem?_eq_some_iff.1 h).1
          have h2 := HFA.out.1
          omega
        rw [HC4.out.2.1 m hml]
        exact HFA.out.2 m z h
  · have hself : L.filter (fun y => decide (y ≠ b)) = L := List.filter_eq_self.2 (fun y hy => decide_eq_true (fun e : y = b => hbL (e ▸ hy)))
    obtain ⟨a, c, rfl, _⟩ := hO.at ptrT
    have HI := Lib.hid hidx
    have HO := Lib.hid (And.intro hO hself)
    have HB := Lib.hid hbL
    clear hidx hO hself hbL hn hb hB
    go_enter Try.func31, Try.ntmps31
    go_wp2_with fail
    go_at_call 40
    refine HI.out.mono ?_
    rintro e w2 ⟨rfl, ⟨rfl, h⟩ | ⟨i0, h1, h2, rfl⟩⟩
    · go_wp2_with fail
      go_ret
      exact ⟨_, rfl, by rw [HO.out.2]; exact HO.out.1, Mod.refl _ _, rfl⟩
    · exact absurd (List.mem_of_getElem? h1) HB.out
end Go.Proofs.Ytffcnnogkpdinaa
