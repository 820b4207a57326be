/- One text out of several: Pd Pe Lr. -/
import Derived.Laws.CopyRow
import Derived.Test.YtdeghpmlhcaedaaDoorMA
/- Buffers: slices.IndexFunc, slices.DeleteFunc at ints; what to take out is told by a closure that only makes memory. -/
namespace Go.Proofs.YtdeghpmlhcaedaaDoor
open Go.RowKit
open Go.ChangeMaps (setBlock)
set_option linter.unusedSimpArgs false
set_option linter.unusedVariables false
attribute [local go_sem] cell_blk frozen_blk one_int one_bool one_ptr one_slice one_map Value.cells
abbrev parkF (B : Nat) : Value := .func (.func 42) #[] #[.pointer (some ⟨B, 0, none⟩)]
/-- What the closure tells, in every world from w on that keeps all but g. -/
def Says (w : World) (B : Nat) (g : Nat → Prop) (L : List Int64) (p : Int64 → Bool) : Prop := ∀ wq, Mod g w wq → ∀ y ∈ L, Calls Tryd.prog 42 #[.int .i64 y.toInt, .pointer (some ⟨B, 0, none⟩)] wq fun e w' => e = .returned (.bool (p y)) ∧ Mod (fun _ => False) wq w'
theorem ic_row {w : World} {base : Nat} {v : Value} {L : List Int64} (h : SlOwn ic 1 3 w base v L) (hL : L ≠ []) :
    ∃ g cap cur, v = .slice (some ⟨g, 0, none⟩) L.length cap ∧ base ≤ g ∧ w.heap[g]? = some (.cells cur 3 (0, 0)) ∧ L.length ≤ cap ∧ cap ≤ maxLen ∧ cap = cur.size ∧ (∀ (i : Nat) (b : Int64), L[i]? = some b → cur[i]? = some (.int .i64 b.toInt)) := by
  obtain ⟨h0, h⟩ := h
  rcases h with ⟨_, hn⟩ | ⟨g, cap, cur, rfl, hb, hg, hnc, hcm, hcs, htake⟩
  · exact absurd (List.eq_nil_of_length_eq_zero hn) hL
  · rw [Nat.mul_one] at hcs htake
    refine ⟨g, cap, cur, rfl, hb, hg, hnc, hcm, hcs.symm, fun i b hi => ?_⟩
    rw [cellsOf_ic] at htake
    have h1 := congrArg (fun l => l[i]?) htake
    have hlt := (List.getElem?_eq_some_iff.1 hi).1
    simp only [List.getElem?_take, List.getElem?_map, hi, Option.map_some, if_pos hlt] at h1
    simpa using h1
set_option maxRecDepth 20000 in
set_option maxHeartbeats 1600000 in
theorem indexI_c {w : World} {base : Nat} {v : Value} {L : List Int64} (hO : SlOwn ic 1 3 w base v L) (hlen : L.length ≤ 1000000) {B : Nat} {p : Int64 → Bool} {T : Nat → Prop} (hp : Says w B T L p) :
    Calls Tryd.prog 62 #[v, parkF B] w fun e w' => Mod (fun _ => False) w w' ∧ ((e = .returned (.int .i64 (-1)) ∧ ∀ y ∈ L, p y = false) ∨ ∃ (i : Nat) (b : Int64), L[i]? = some b ∧ p b = true ∧ (∀ y ∈ L.take i, p y = false) ∧ e = .returned (.int .i64 (i : Int))) := by
  have hcell : ∀ (i : Nat) (y : Int64), L[i]? = some y → ∃ g cap cur, v = .slice (some ⟨g, 0, none⟩) L.length cap ∧ w.heap[g]? = some (.cells cur 3 (0, 0)) ∧ cur[i]? = some (.int .i64 y.toInt) := fun i y hy => by
    have hL : L ≠ [] := fun e => by rw [e] at hy; cases hy
    obtain ⟨g, cap, cur, e, _, kg, _, _, _, hc⟩ := ic_row hO hL
    exact ⟨g, cap, cur, e, kg, hc i y hy⟩
  obtain ⟨a, c, rfl, _⟩ := hO.at intT
  have HC := Lib.hid hcell
  have HP := Lib.hid hp
  clear hcell hO hp
  go_enter Tryd.func62, Tryd.ntmps62
  go_wp2_with fail
  go_loopw [8] (fun s8 ws => ∃ i : Nat, i ≤ L.length ∧ s8 = .int .i64 i ∧ Hid (∀ y ∈ L.take i, p y = false) ∧ Mod (fun _ => False) w ws) (fun s8 _ => L.length - (intOf s8).toNat)
  case atStart => exact ⟨0, Nat.zero_le _, rfl, Lib.hid (by simp), Mod.refl _ _⟩
  case round =>
    obtain ⟨i, hi, rfl, HN, hm⟩ := hrel
    by_cases hlt : i < L.length
    · obtain ⟨y, hy⟩ : ∃ y, L[i]? = some y := ⟨_, List.getElem?_eq_getElem hlt⟩
      obtain ⟨g, cap, cur, e, kg0, hcx⟩ := HC.out i y hy
      cases e
      have kg := hm.at0 kg0
      have HY := Lib.hid hy
      have HM := Lib.hid hm
      clear hy kg0 hm
      go_wp2_with fail
      go_at_call 42
      refine (HP.out _ (HM.out.mono (fun _ _ h => h.elim)) y (List.mem_of_getElem? HY.out)).mono ?_
      rintro e w2 ⟨rfl, mc⟩
      have HM2 := Lib.hid (HM.out.then0 mc)
      clear mc
      cases hyb : p y with
      | true =>
        have HB := Lib.hid hyb
        clear hyb
        go_wp2_with fail
        go_ret
        exact ⟨HM2.out, .inr ⟨i, y, HY.out, HB.out, HN.out, rfl⟩⟩
      | false =>
        have HB := Lib.hid hyb
        clear hyb
        go_wp2_with fail
        go_roundw
        case rel =>
          refine ⟨i + 1, by omega, by go_num, Lib.hid ?_, HM2.out⟩
          rw [List.take_add_one, HY.out]
          intro z h
          rcases List.mem_append.1 h with h | h
          · exact HN.out z h
          · simp at h
            rw [h]
            exact HB.out
        case measure => simp [intOf]; omega
    · obtain rfl : i = L.length := by omega
      go_wp2_with fail
      go_ret
      refine ⟨hm, .inl ⟨rfl, ?_⟩⟩
      have := HN.out
      rwa [List.take_length] at this
theorem zeroI (w : World) : (zeroValue 3).run Tryd.prog w = .ok (.int .i64 0) w := by kernel_rfl
theorem clearI_run {w : World} {g o n cap : Nat} {cur : Array Value} (hg : w.heap[g]? = some (.cells cur 3 (0, 0))) (hn : 0 < n) (hle : o + n ≤ cur.size) (ty : TypeId) : ∃ cur' w', (Builtin.clear_ #[51] ty #[.slice (some ⟨g, o, none⟩) n cap]).run Tryd.prog w = .ok (.tuple #[]) w' ∧ w'.heap[g]? = some (.cells cur' 3 (0, 0)) ∧ cur'.size = cur.size ∧ (∀ i, i < o → cur'[i]? = cur[i]?) ∧ Mod (fun i => i = g) w w' := by
  have hz : (Builtin.zeroCells (Value.int .i64 0).cells n).toList = List.replicate n (.int .i64 0) := by
    unfold Builtin.zeroCells
    apply List.ext_getElem
    · simp [Value.cells]
    · intro i h1 h2
      simp [Value.cells, Nat.mod_one]
  have hst := run_storeCells_at Tryd.prog g o 3 (List.replicate n (.int .i64 0)) 0 cur w hg (by simpa using hle) (fun v hv => by
    rw [List.eq_of_mem_replicate hv]
    rfl)
  refine ⟨(cur.toList.take o ++ List.replicate n (Value.int .i64 0) ++ cur.toList.drop (o + n)).toArray, w.setRow g (cur.toList.take o ++ List.replicate n (Value.int .i64 0) ++ cur.toList.drop (o + n)).toArray, ?_, setRow_heap w g cur _ _ _ hg, ?_, fun i hi => ?_, ?_⟩
  · obtain ⟨m, rfl⟩ : ∃ m, n = m + 1 := ⟨n - 1, by omega⟩
    unfold Builtin.clear_
    simp [run_underlying Tryd.underlying51, zeroI, Result.andThen, hz, hst]
  · simp only [List.size_toArray, List.length_append, List.length_take, List.length_drop, List.length_replicate, Array.length_toList]
    omega
  · simp only [zA, List.append_assoc]
    rw [List.getElem?_append_left (by simp; omega), List.getElem?_take, if_pos (by omega)]
    simp
  · refine ⟨rfl, rfl, rfl, ?_, fun i hi hne => ?_⟩
    · simp [World.setRow]
    · simp only [World.setRow]
      rw [Array.getElem?_modify, if_neg (fun e => hne e.symm)]
theorem ic_mk {w : World} {base g cap : Nat} {cur : Array Value} {L : List Int64} (hg : w.heap[g]? = some (.cells cur 3 (0, 0))) (hb : base ≤ g) (hc : L.length ≤ cap) (hm : cap ≤ maxLen) (hs : cap = cur.size) (h : ∀ (i : Nat) (b : Int64), L[i]? = some b → cur[i]? = some (.int .i64 b.toInt)) : SlOwn ic 1 3 w base (.slice (some ⟨g, 0, none⟩) L.length cap) L := by
  refine ⟨?_, .inr ⟨g, cap, cur, rfl, hb, hg, hc, hm, by omega, ?_⟩⟩
  · rw [cellsOf_ic]; simp
  · rw [cellsOf_ic, Nat.mul_one]
    apply List.ext_getElem?
    intro i
    rw [List.getElem?_take, List.getElem?_map]
    by_cases hi : i < L.length
    · rw [if_pos hi, List.getElem?_eq_getElem hi]
      have := h i _ (List.getElem?_eq_getElem hi)
      simpa using this
    · rw [if_neg hi, List.getElem?_eq_none (by omega)]
      rfl
set_option maxRecDepth 20000 in
set_option maxHeartbeats 3200000 in
/-- **slices.DeleteFunc at ints.** -/
theorem deleteI_c {w : World} {base : Nat} {v : Value} {L : List Int64} (hO : SlOwn ic 1 3 w base v L) (hlen : L.length ≤ 1000000) {B : Nat} {p : Int64 → Bool} (hp : Says w B (fun i => v.ownBlock = some i) L p) :
    Calls Tryd.prog 40 #[v, parkF B] w fun e w' => ∃ v', e = .returned v' ∧ SlOwn ic 1 3 w' base v' (L.filter fun y => !p y) ∧ Mod (fun i => v.ownBlock = some i) w w' := by
  have hidx := indexI_c hO hlen hp
  by_cases hL : ∀ y ∈ L, p y = false
  · have hself : L.filter (fun y => !p y) = L := List.filter_eq_self.2 (fun y hy => by rw [hL y hy]; rfl)
    obtain ⟨a, c, rfl, _⟩ := hO.at intT
    have HI := Lib.hid hidx
    have HO := Lib.hid (And.intro hO hself)
    have HB := Lib.hid hL
    clear hidx hO hself hL hp
    go_enter Tryd.func40, Tryd.ntmps40
    go_wp2_with fail
    go_at_call 62
    refine HI.out.mono ?_
    rintro e w2 ⟨m2, ⟨rfl, h⟩ | ⟨i0, b, h1, h2, h3, rfl⟩⟩
    · clear h
      go_wp2_with fail
      go_ret
      exact ⟨_, rfl, by rw [HO.out.2]; exact HO.out.1.mod m2 (fun _ _ h => h), m2.mono (fun _ _ h => h.elim)⟩
    · have := HB.out b (List.mem_of_getElem? h1)
      rw [h2] at this
      cases this
  · have hne : L ≠ [] := fun e => hL (fun y hy => by rw [e] at hy; cases hy)
    obtain ⟨g, cap, cur, rfl, hbg, kg, hcap, hmx, hcs, hcur⟩ := ic_row hO hne
    have HCu := Lib.hid hcur
    have HMX := Lib.hid (And.intro hmx (And.intro hbg hL))
    have HI := Lib.hid hidx
    have HCS := Lib.hid hcs
    have HP := Lib.hid hp
    clear hcs hidx hcur hO hmx hL hne hp hbg
    go_enter Tryd.func40, Tryd.ntmps40
    go_wp2_with fail
    go_at_call 62
    refine HI.out.mono ?_
    rintro e w2 ⟨m2, ⟨rfl, h⟩ | ⟨i0, b0, h1, h2, h3, rfl⟩⟩
    · exact absurd h HMX.out.2.2
    have hi0 := (List.getElem?_eq_some_iff.1 h1).1
    have HX := Lib.hid (And.intro h1 (And.intro h2 h3))
    replace kg := m2.at0 kg
    have HM2 := Lib.hid m2
    clear h1 h2 h3 m2
    have hdm : ((i0 : Int) == -1) = false := by
      rw [beq_eq_false_iff_ne]
      omega
    go_wp2_with fail
    go_loopw [5, 6] (fun s5 s6 ws => ∃ (j i : Nat) (cur' : Array Value), s5 = .int .i64 i ∧ s6 = .int .i64 j ∧ i < j ∧ j ≤ L.length ∧ Hid (((L.take j).filter fun y => !p y).length = i) ∧ ws.heap[g]? = some (.cells cur' 3 (0, 0)) ∧ Hid (cur'.size = cur.size) ∧
      Hid (∀ (m : Nat) (y : Int64), ((L.take j).filter fun y => !p y)[m]? = some y → cur'[m]? = some (.int .i64 y.toInt)) ∧ Hid (∀ (m : Nat) (y : Int64), j ≤ m → L[m]? = some y → cur'[m]? = some (.int .i64 y.toInt)) ∧ Mod (fun i => i = g) w ws) (fun _ s6 _ => L.length - (intOf s6).toNat)
    case atStart =>
      have hf : (L.take (i0 + 1)).filter (fun y => !p y) = L.take i0 := by
        rw [List.take_add_one, HX.out.1, List.filter_append]
        have hself : (L.take i0).filter (fun y => !p y) = L.take i0 := List.filter_eq_self.2 (fun y hy => by rw [HX.out.2.2 y hy]; rfl)
        rw [hself]
        simp [HX.out.2.1]
      refine ⟨i0 + 1, i0, cur, rfl, by go_num, by omega, by omega, Lib.hid (by rw [hf, List.length_take]; omega), kg, Lib.hid rfl, Lib.hid (fun m y h => ?_), Lib.hid (fun m y _ h => HCu.out m y h), HM2.out.mono (fun _ _ h => h.elim)⟩
      rw [hf, List.getElem?_take] at h
      split at h
      · exact HCu.out m y h
      · cases h
    case round =>
      obtain ⟨j, i, cur', rfl, rfl, hij, hj, HF, kg', HS, HA, HR, hm⟩ := hrel
      by_cases hlt : j < L.length
      · obtain ⟨y, hy⟩ : ∃ y, L[j]? = some y := ⟨_, List.getElem?_eq_getElem hlt⟩
        have hcx := HR.out j y (Nat.le_refl _) hy
        have HY := Lib.hid hy
        have hsz : i < cur'.size := by
          have := HS.out
          have := HCS.out
          omega
        have hci : ∃ u, cur'[i]? = some u := ⟨_, Array.getElem?_eq_getElem hsz⟩
        obtain ⟨u, hu⟩ := hci
        have HM := Lib.hid hm
        clear hy hm
        go_wp2_with fail
        go_at_call 42
        refine (HP.out _ (HM.out.mono (fun i _ h => by rw [h]; rfl)) y (List.mem_of_getElem? HY.out)).mono ?_
        rintro e w3 ⟨rfl, mc⟩
        have HM3 := Lib.hid (HM.out.then0 mc)
        replace kg' := mc.at0 kg'
        clear mc
        cases hyb : p y with
        | true =>
          have HB := Lib.hid hyb
          clear hyb
          go_wp2_with fail
          have hf : (L.take (j + 1)).filter (fun y => !p y) = (L.take j).filter (fun y => !p y) := by
            rw [List.take_add_one, HY.out, List.filter_append]
            simp [HB.out]
          have HFF := Lib.hid hf
          clear hf
          go_roundw
          case rel => exact ⟨j + 1, i, cur', rfl, by go_num, by omega, by omega, Lib.hid (by rw [HFF.out]; exact HF.out), kg', HS, Lib.hid (by rw [HFF.out]; exact HA.out), Lib.hid (fun m z h1 h2 => HR.out m z (by omega) h2), HM3.out⟩
          case measure => simp [intOf]; omega
        | false =>
          have HB := Lib.hid hyb
          clear hyb
          go_wp2_with fail
          have hf : (L.take (j + 1)).filter (fun y => !p y) = (L.take j).filter (fun y => !p y) ++ [y] := by
            rw [List.take_add_one, HY.out, List.filter_append]
            simp [HB.out]
          have HFF := Lib.hid hf
          have kg2 : (w3.setCell ⟨g, i, none⟩ (.int .i64 y.toInt)).heap[g]? = some (.cells (cur'.setIfInBounds i (.int .i64 y.toInt)) 3 (0, 0)) := by
            rw [setCell_blk kg', heap_setBlock _ _ (lt_size kg')]
          have hm2 : Mod (fun i => i = g) w (w3.setCell ⟨g, i, none⟩ (.int .i64 y.toInt)) := HM3.out.setCell _ (fun _ => rfl)
          have HK := Lib.hid (And.intro kg2 hm2)
          clear hf kg2 hm2
          go_roundw
          case rel =>
            refine ⟨j + 1, i + 1, cur'.setIfInBounds i (.int .i64 y.toInt), by go_num, by go_num, by omega, by omega, Lib.hid (by rw [HFF.out, List.length_append, HF.out]; rfl), HK.out.1, Lib.hid (by rw [Array.size_setIfInBounds]; exact HS.out), Lib.hid (fun m z h => ?_), Lib.hid (fun m z h1 h2 => ?_), HK.out.2⟩
            · rw [HFF.out] at h
              rw [Array.getElem?_setIfInBounds]
              by_cases hmi : i = m
              · rw [if_pos hmi, if_pos hsz]
                rw [List.getElem?_append_right (by rw [HF.out]; omega), HF.out, ← hmi, Nat.sub_self] at h
                simp at h
                rw [h]
              · rw [if_neg hmi]
                have hml : m < i := by
                  have := (List.getElem?_eq_some_iff.1 h).1
                  rw [List.length_append, HF.out] at this
                  simp at this
                  omega
                rw [List.getElem?_append_left (by rw [HF.out]; exact hml)] at h
                exact HA.out m z h
            · rw [Array.getElem?_setIfInBounds, if_neg (by omega)]
              exact HR.out m z (by omega) h2
          case measure => simp [intOf]; omega
      · obtain rfl : j = L.length := by omega
        have hF := HF.out
        have hA := HA.out
        rw [List.take_length] at hF hA
        have HFA := Lib.hid (And.intro hF hA)
        have hs : L.length ≤ cur'.size := by have := HS.out; have := HCS.out; omega
        have hd := sl_drop intT (g := g) (o := 0) (cap := cap) (len := L.length) (k := i) (by omega) hcap
        have ht := sl_take intT (g := g) (o := 0) (cap := cap) (len := L.length) (k := i) (by omega)
        rw [if_neg (by omega)] at hd
        simp only [Nat.zero_add, Nat.mul_one] at hd
        obtain ⟨cur2, w4, hcl, kg4, hs4, hc4, m4⟩ := clearI_run (o := i) (n := L.length - i) (cap := cap - i) kg' (by omega) (by omega) 0
        have HC4 := Lib.hid (And.intro hs4 (And.intro hc4 m4))
        clear hF hA hs4 hc4 m4
        go_wp2_with fail
        go_ret
        have hm4 := hm.then HC4.out.2.2 (fun i _ e => e)
        refine ⟨_, rfl, ?_, hm4.mono (fun i _ e => by rw [e]; rfl)⟩
        rw [← HFA.out.1]
        refine ic_mk kg4 HMX.out.2.1 (by have := HFA.out.1; omega) HMX.out.1 (by rw [HC4.out.1, HS.out, ← HCS.out]) (fun m z h => ?_)
        have hml : m < i := by
          have h1 := (List.getElem?_eq_some_iff.1 h).1
          have h2 := HFA.out.1
          omega
        rw [HC4.out.2.1 m hml]
        exact HFA.out.2 m z h
end Go.Proofs.YtdeghpmlhcaedaaDoor
/- Buffers: Parked. -/
namespace Go.Proofs.YtdeghpmlhcaedaaDoor
open Go.RowKit
open Go.ChangeMaps (setBlock)
set_option linter.unusedSimpArgs false
set_option linter.unusedVariables false
attribute [local go_sem ↓] wlItem ldItem stItem
attribute [local go_sem] cell_blk frozen_blk one_int one_bool one_ptr one_slice one_map Value.cells itr_size itr_all itr_one itr_one' itr_n itr_prio itr_pl itr_sent itr_n' itr_prio' itr_pl' itr_sent' zItem_size zItem_all zItem_one
theorem Bf.modT {w w' : World} {b s h : Nat} {R : List (Option ItR)} {C : List Nd} {Ts Th Tr T : Nat → Prop} (H : Bf w b s h R C Ts Th Tr) (hm : Mod T w w') (hT : ∀ i, Ts i ∨ Th i ∨ Tr i ∨ i = b → ¬ T i) : Bf w' b s h R C Ts Th Tr :=
  ⟨hm.at H.kb (hT b (.inr (.inr (.inr rfl)))), (SAt.good s R).cl Ts w w' H.sat (hm.mono (fun i _ e k => hT i (.inl k) e)), (HAt.good h C).cl Th w w' H.hat (hm.mono (fun i _ e k => hT i (.inr (.inl k)) e)), fun i y hy => ⟨(H.rd i y hy).1.mod hm (H.rd i y hy).2.1 (fun j hj => hT j (.inr (.inr (.inl hj)))), (H.rd i y hy).2⟩, H.dsh, H.drs, H.drh, H.db⟩
/-- Who is parked. -/
def isPk : Option (Option It) → Bool
  | some (some x) => x.pl == 2
  | _ => false
def pkd (S : List (Option It)) : List Nat := (List.range S.length).filter (fun i => isPk S[i]?)
theorem pkd_nums {R : List (Option ItR)} (hR : R.length ≤ 4096) : ((nums R R.length).map idn).filter (fun y => !(fun (z : Int64) => !isPk ((conS R)[z.toInt.toNat]?)) y) = (pkd (conS R)).map idn := by
  have h1 : ((nums R R.length).map idn).filter (fun y => !(fun (z : Int64) => !isPk ((conS R)[z.toInt.toNat]?)) y) = ((nums R R.length).filter (fun i => isPk ((conS R)[i]?))).map idn := by
    rw [List.filter_map]
    refine congrArg _ (List.filter_congr (fun i hi => ?_))
    have hi2 : i < R.length := List.mem_range.1 (List.mem_filter.1 hi).1
    simp only [Function.comp, Bool.not_not]
    rw [idn_toInt (by omega), Int.toNat_natCast]
  rw [h1]
  unfold nums pkd
  rw [conS_len, List.filter_filter]
  refine congrArg _ (List.filter_congr (fun i hi => ?_))
  cases hc : isPk (conS R)[i]? with
  | false => rfl
  | true =>
    rw [Bool.true_and]
    unfold isPk at hc
    split at hc
    · rename_i x hx
      obtain ⟨y, hy, _⟩ := con_at hx
      exact occ_some hy
    · cases hc
theorem u8_two (p : UInt8) : (!((p.toNat : Int) == 2)) = !(p.toNat == 2) := by
  congr 1
  by_cases h : p.toNat = 2
  · rw [h]; rfl
  · have h2 : ¬ ((p.toNat : Int) = 2) := by omega
    rw [beq_eq_false_iff_ne.2 h, beq_eq_false_iff_ne.2 h2]
set_option maxRecDepth 20000 in
set_option maxHeartbeats 3200000 in
theorem parked1_c {w : World} {b s h B i : Nat} {R : List (Option ItR)} {C : List Nd} {Ts Th Tr : Nat → Prop} (HB : Bf w b s h R C Ts Th Tr) (kB : w.heap[B]? = some (.cells #[ptrV b] 24 (0, 0))) {y : ItR} (hy : R[i]? = some (some y)) :
    Calls Tryd.prog 42 #[.int .i64 (i : Int), .pointer (some ⟨B, 0, none⟩)] w fun e w' => e = .returned (.bool (!(y.pl.toNat == 2))) ∧ Mod (fun _ => False) w w' := by
  have kb := HB.kb
  have h2 := u8_two y.pl
  have HH := Lib.hid (And.intro HB hy)
  rw [← h2]
  clear HB hy h2
  go_enter Tryd.func42, Tryd.ntmps42
  go_upto_region 1 with fail
  have Lkb := lt_size kb
  have LkB := lt_size kB
  refine wp_pass0 (C := fun _ _ v => v = .tuple #[.agg (itr y), .int .i64 0]) (κ := fun i => [1, 0, 0, 0, 1, 0, 2, 0, 0, 0, 3, 4, 0].getD i 0) [0, 1, 2, 3, 4, 5, 6, 7, 8, 9, 10, 11, 12] (by kernel_rfl) (by kernel_rfl) (fun _ _ d _ _ h => by cases d <;> first | exact h | exact absurd h (hP _ _ _)) ?_
  (refine TD.load (v := ?v1) (p := ?p1) (Mod.refl _ _) (by simp only [zA, zB, zC]; rfl) rfl ?hw1 rfl ?hx1 (fun wq hSq => ?hy1) ?hn1; (case hw1 => rfl); (case hx1 => (simp only [Act.eval, zD, zA, zB, zC, zE]; (try rfl))); (case hy1 => (have kbq := hSq.at kb (fun h => h); have kBq := hSq.at kB (fun h => h); go_simp; (try with_reducible rfl))); (try simp only [Act.put, zF, zG, zH]))
  (refine TD.val0 (v := ?v2) (by simp only [zA, zB, zC]; rfl) rfl ?hw2 (fun w1 => ?hy2) ?hn2; (case hw2 => rfl); (case hy2 => (go_simp; (try with_reducible rfl))); (try simp only [Act.put, zF, zG, zH]))
  (refine TD.val0 (v := ?v3) (by simp only [zA, zB, zC]; rfl) rfl ?hw3 (fun w1 => ?hy3) ?hn3; (case hw3 => rfl); (case hy3 => (go_simp; (try with_reducible rfl))); (try simp only [Act.put, zF, zG, zH]))
  (refine TD.val0 (v := ?v4) (by simp only [zA, zB, zC]; rfl) rfl ?hw4 (fun w1 => ?hy4) ?hn4; (case hw4 => rfl); (case hy4 => (go_simp; (try with_reducible rfl))); (try simp only [Act.put, zF, zG, zH]))
  (refine TD.load (v := ?v5) (p := ?p5) (Mod.refl _ _) (by simp only [zA, zB, zC]; rfl) rfl ?hw5 rfl ?hx5 (fun wq hSq => ?hy5) ?hn5; (case hw5 => rfl); (case hx5 => (simp only [Act.eval, zD, zA, zB, zC, zE]; (try rfl))); (case hy5 => (have kbq := hSq.at kb (fun h => h); have kBq := hSq.at kB (fun h => h); go_simp; (try with_reducible rfl))); (try simp only [Act.put, zF, zG, zH]))
  (refine TD.val0 (v := ?v6) (by simp only [zA, zB, zC]; rfl) rfl ?hw6 (fun w1 => ?hy6) ?hn6; (case hw6 => rfl); (case hy6 => (go_simp; (try with_reducible rfl))); (try simp only [Act.put, zF, zG, zH]))
  (refine TD.call (f := ?f7) (args := ?r7) (Mod.refl _ _) (by simp only [zA, zB, zC]; rfl) rfl ?hw7 (fun w1 => ?hy7) ?hsp7 ?hn7; (case hw7 => rfl); (case hy7 => (go_simp; (first | with_reducible rfl | (constructor <;> with_reducible rfl)))); (case hsp7 => (intro wq hSq; have kbq := hSq.at kb (fun h => h); have kBq := hSq.at kB (fun h => h); exact (sget_c (HH.out.1.mod0 hSq).sat HH.out.2).mono (fun e w' h => ⟨_, h.1, rfl, h.2⟩))); rintro _ rfl; (try simp only [Act.put, zF, zG, zH]))
  (refine TD.val0 (v := ?v8) (by simp only [zA, zB, zC]; rfl) rfl ?hw8 (fun w1 => ?hy8) ?hn8; (case hw8 => rfl); (case hy8 => (go_simp; (try with_reducible rfl))); (try simp only [Act.put, zF, zG, zH]))
  (refine TD.val0 (v := ?v9) (by simp only [zA, zB, zC]; rfl) rfl ?hw9 (fun w1 => ?hy9) ?hn9; (case hw9 => rfl); (case hy9 => (go_simp; (try with_reducible rfl))); (try simp only [Act.put, zF, zG, zH]))
  (refine TD.val0 (v := ?v10) (by simp only [zA, zB, zC]; rfl) rfl ?hw10 (fun w1 => ?hy10) ?hn10; (case hw10 => rfl); (case hy10 => (go_simp; (try with_reducible rfl))); (try simp only [Act.put, zF, zG, zH]))
  (refine TD.allocB (by simp only [zA, zB, zC]; rfl) rfl ?hw11 rfl rfl alItem (fun p4 hp4 => ?hn11); (case hw11 => rfl); (try simp only [Act.put, zF, zG, zH]))
  (refine TD.storeB (d := ?d12) (T := ?T12) (y := ?y12) (p := ?p12) (b := ?b12) (v := ?v12) (by simp only [zA, zB, zC]; rfl) rfl ?hw12 ?hd12 ?hop12 ?hev12 ?hx12 ?hb12 ?htag12 (fun w1 hb1 => ?hy12) ?hn12; (case hw12 => rfl); (case hd12 => rfl); (case hop12 => rfl); (case hev12 => (simp only [Act.eval, zD, zA, zB, zC, zE]; (try rfl))); (case hx12 => (simp only [Act.eval, zD, zA, zB, zC, zE]; (try rfl))); (case hb12 => first | exact Bx.set_same _ _ _ | (simp only [Bx.set_same]; rfl)); (case hy12 => (go_simp; (try first | with_reducible rfl | (rw [setCell_blk hb1]; rfl)))); (try simp only [Act.put, zF, zG, zH]))
  (refine TD.val0 (v := ?v13) (by simp only [zA, zB, zC]; rfl) rfl ?hw13 (fun w1 => ?hy13) ?hn13; (case hw13 => rfl); (case hy13 => (go_simp; (try with_reducible rfl))); (try simp only [Act.put, zF, zG, zH]))
  refine TD.nil (fun w1 hr => ?_)
  have kb := hr.mod.at kb (fun h => h)
  have kB := hr.mod.at kB (fun h => h)
  have kp4 := hr.box p4 _ (by first | exact Bx.set_same _ _ _ | (simp only [Bx.set_same]; rfl)); dsimp only [Value.cells] at kp4; obtain ⟨gp4, kp4⟩ := kp4
  have m1 := hr.mod
  clear hr
  go_wp2_with fail
  go_ret
  exact ⟨rfl, m1⟩
set_option maxRecDepth 20000 in
theorem clipInt_c (v2 : Value) (w : World) (n : Nat) {a : Option Addr} {c : Nat} (h : ∀ w2, (Instr.sliceAt 51 (.slice a n c) none (some (.int .i64 (n : Int))) (some (.int .i64 (n : Int)))).run Tryd.prog w2 = .ok v2 w2) :
    Calls Tryd.prog 39 #[.slice a n c] w fun e w' => e = .returned v2 ∧ w' = w := by
  go_enter Tryd.func39, Tryd.ntmps39
  go_wp2_with fail
  go_ret
  exact ⟨rfl, rfl⟩
theorem numsS_c {w : World} {s : Nat} {R : List (Option ItR)} {Ts : Nat → Prop} (hs : SAt s R Ts w) (hw : TabW w) : Calls Tryd.prog 41 #[ptrV s] w fun e w' => ∃ v, e = .returned v ∧ SlOwn ic 1 3 w' w.heap.size v ((nums R R.length).map idn) ∧ Mod (fun _ => False) w w' := by
  obtain ⟨g, u, cur, us, H, _⟩ := hs
  exact numbers_c H hw
set_option maxRecDepth 20000 in
set_option maxHeartbeats 3200000 in
theorem bparked_c {w0 w : World} {O : Nat → Prop} {b : Nat} {S : List (Option It)} (H : BH w0 O b S w) (ht : TabW w) : Calls Tryd.prog 20 #[ptrV b] w fun e w' => ∃ v, e = .returned v ∧ NewS ic 1 3 w.heap.size w' v ((pkd S).map idn) ∧ Mod (fun _ => False) w w' := by
  have hsl := H.len
  obtain ⟨s, h, R, C, Ts, Th, Tr, HB, rfl, hperm, hT, m⟩ := H
  have kb := HB.kb
  rw [conS_len] at hsl
  have HH := Lib.hid (And.intro HB (And.intro hT (And.intro hsl ht)))
  clear HB hperm hT m hsl ht
  go_enter Tryd.func20, Tryd.ntmps20
  go_upto_region 0 with fail
  have Lkb := lt_size kb
  refine wp_pass0 (C := fun _ _ _ => False) (κ := fun i => [3, 0].getD i 0) [0, 1] (by kernel_rfl) (by kernel_rfl) (fun _ _ d _ _ h => by cases d <;> first | exact h | exact absurd h (hP _ _ _)) ?_
  (refine TD.box (v := ?v14) (by simp only [zA, zB, zC]; rfl) rfl ?hw14 rfl rfl ?hx14 (fun p1 hp1 => ?hn14); (case hw14 => rfl); (case hx14 => (simp only [Act.eval, zD, zA, zB, zC, zE]; (try rfl))); (try simp only [Act.put, zF, zG, zH]))
  (refine TD.val0 (v := ?v15) (by simp only [zA, zB, zC]; rfl) rfl ?hw15 (fun w1 => ?hy15) ?hn15; (case hw15 => rfl); (case hy15 => (go_simp; (try with_reducible rfl))); (try simp only [Act.put, zF, zG, zH]))
  refine TD.nil (fun w1 hr => ?_)
  have kb := hr.mod.at kb (fun h => h)
  have kp1 := hr.box p1 _ (by first | exact Bx.set_same _ _ _ | (simp only [Bx.set_same]; rfl)); dsimp only [Value.cells] at kp1; obtain ⟨gp1, kp1⟩ := kp1
  have m1 := hr.mod
  clear hr
  go_wp2_with fail
  go_at_call 26
  refine (bthere_c kb).mono ?_
  rintro e w2 ⟨rfl, rfl⟩
  go_wp2_with fail
  go_at_call 41
  refine (numsS_c (HH.out.1.mod0 m1).sat (HH.out.2.2.2.mod0 m1)).mono ?_
  rintro e w3 ⟨v, rfl, hO, m3⟩
  have hsays : Says w3 p1 (fun i => v.ownBlock = some i) ((nums R R.length).map idn) (fun z => !isPk ((conS R)[z.toInt.toNat]?)) := by
    intro wq hq z hz
    obtain ⟨i, hi, rfl⟩ := List.mem_map.1 hz
    have hi2 := List.mem_filter.1 hi
    have hil : i < R.length := List.mem_range.1 hi2.1
    have hll := HH.out.2.2.1
    obtain ⟨y, hy⟩ : ∃ y, R[i]? = some (some y) := by
      have he := List.getElem?_eq_getElem hil
      cases hc : R[i] with
      | none =>
        rw [hc] at he
        have := occ_none he
        rw [hi2.2] at this
        cases this
      | some y => rw [hc] at he; exact ⟨y, he⟩
    have hown : ∀ j, v.ownBlock = some j → w2.heap.size ≤ j := fun j hj => (hO.lt j hj).1
    have h12 : w.heap.size ≤ w2.heap.size := m1.size
    have kp1q := hq.at (m3.at0 kp1) (fun e => by have := hown _ e; have := lt_size kp1; omega)
    have HBq := ((HH.out.1.mod0 m1).mod0 m3).modT hq (fun j hj e => by have h1 := hown j e; have h2 := (HH.out.2.1 j hj).2; omega)
    have hc := parked1_c HBq kp1q hy
    have hid : (idn i).toInt = (i : Int) := idn_toInt (by omega)
    have hpk : isPk (conS R)[i]? = (y.pl.toNat == 2) := by
      unfold conS
      rw [List.getElem?_map, hy]
      rfl
    show Calls Tryd.prog _ #[.int .i64 (idn i).toInt, _] wq fun e w' => e = .returned (.bool (!isPk (conS R)[(idn i).toInt.toNat]?)) ∧ _
    rw [hid, Int.toNat_natCast, hpk]
    exact hc
  have HS := Lib.hid (And.intro hsays (And.intro hO m3))
  clear hsays hO m3
  go_wp2_with fail
  go_at_call 40
  refine (deleteI_c HS.out.2.1 (by rw [List.length_map]; have h1 := List.length_filter_le (occ R) (List.range R.length); rw [List.length_range] at h1; have := HH.out.2.2.1; unfold nums; omega) HS.out.1).mono ?_
  rintro e w4 ⟨v4, rfl, hO4, m4⟩
  rw [pkd_nums HH.out.2.2.1.2] at hO4
  obtain ⟨PL, hPL⟩ : ∃ PL, PL = (pkd (conS R)).map idn := ⟨_, rfl⟩
  rw [← hPL] at hO4
  have HPL := Lib.hid hPL
  clear hPL
  obtain ⟨a5, c5, v5, rfl, hcl, hN5⟩ := SlOwn.clip intT hO4
  have HN := Lib.hid (And.intro hN5 m4)
  clear hO4 hN5 m4
  have hcl := clipInt_c v5 w4 _ hcl
  have HCL := Lib.hid hcl
  clear hcl
  go_wp2_with fail
  go_at_call 39
  refine HCL.out.mono ?_
  rintro e w5 ⟨rfl, rfl⟩
  go_wp2_with fail
  go_ret
  have hsz := m1.size
  refine ⟨_, rfl, by rw [← HPL.out]; exact HN.out.1.base hsz, (m1.then0 HS.out.2.2).then HN.out.2 (fun i hi e => ?_)⟩
  have := (HS.out.2.1.lt i e).1
  omega
end Go.Proofs.YtdeghpmlhcaedaaDoor
/- Buffers, the law's own functions: ready, rank, numbers. -/
namespace Go.Proofs.YtdeghpmlhcaedaaDoor
open Go.RowKit
open Go.ChangeMaps (setBlock)
set_option linter.unusedSimpArgs false
set_option linter.unusedVariables false
attribute [local go_sem ↓] wlItem ldItem stItem wlRdy ldRdy stRdy wlRk ldRk stRk eqRk eqRk2
attribute [local go_sem] cell_blk frozen_blk one_int one_bool one_ptr one_slice one_map Value.cells rkc_size rkc_all1 itr_size itr_all itr_one itr_one' itr_n itr_prio itr_pl itr_sent itr_n' itr_prio' itr_pl' itr_sent' itr_r zItem_size zItem_all zItem_one rdr_size rdr_all rdr_one rdr_one' zRk_sz rdr47 zRdy_size
def rolW : Role := ⟨key0, false, true⟩
/-- What ready makes. -/
def rdy (p : UInt64) (b : UInt8) : RdC := { rd0.con with b := [b], ro := [rolW], prio := p }
theorem rdy_prio (p : UInt64) (b : UInt8) : (rdy p b).prio = p := rfl
theorem bsByte (x : UInt8) (w : World) : (Instr.buildSlice 31 1 #[(0, u8v x)]).run Tryd.prog w = .ok (.slice (some ⟨w.heap.size, 0, none⟩) 1 1) (w.alloc (.cells (uc x) 5)) := by
  obtain ⟨i0, z, hi, hz, hz1, hz2, hz3⟩ := bytesT.info
  refine run_buildSlice w _ _ 1 _ _ i0 _ Tryd.underlying31 hi hz (by rw [hz1]; omega) (by rw [hz1]; omega) ?_
  rw [hz1]
  show Instr.fill _ _ [(0, _)] = _
  rw [fill_cons (off := 0) (n := 1) rfl rfl (by simp)]
  show some (wr _ 0 (uc x).toList) = _
  rw [wr_whole (uc x) _ (by simp [uc, hz3])]
theorem bsRole (x : Role) (w : World) : (Instr.buildSlice 44 1 #[(0, .agg (rcr x))]).run Tryd.prog w = .ok (.slice (some ⟨w.heap.size, 0, none⟩) 1 1) (w.alloc (.cells (rcr x) 75)) := by
  obtain ⟨i0, z, hi, hz, hz1, hz2, hz3⟩ := rolesT.info
  have hs : (rcr x).size = 34 := rc_size _ _ _
  refine run_buildSlice w _ _ 1 _ _ i0 _ Tryd.underlying44 hi hz (by rw [hz1]; omega) (by rw [hz1]; omega) ?_
  rw [hz1]
  show Instr.fill _ _ [(0, _)] = _
  rw [fill_cons (off := 0) (n := 34) rfl (by simp [Value.cells, hs]) (by simp)]
  show some (wr _ 0 (rcr x).toList) = _
  rw [wr_whole (rcr x) _ (by simp [hs, hz3])]
theorem bldRdy (p : UInt64) (a6 a9 : Nat) (b : UInt8) (r : Role) (w : World) : (Instr.build 48 #[(0, .slice (some ⟨a6, 0, none⟩) 1 1), (6, u64v p), (2, .slice (some ⟨a9, 0, none⟩) 1 1)]).run Tryd.prog w = .ok (.agg (rdr { rd0 with b := ⟨some ⟨a6, 0, none⟩, [b], 1⟩, prio := p, ro := ⟨some ⟨a9, 0, none⟩, [r], 1⟩ })) w := by
  refine run_build_struct (z := .agg zRdy) (places := #[(0, 1), (1, 40), (41, 1), (42, 3), (45, 1), (46, 1), (47, 1)]) Tryd.underlying48 (fun w => by kernel_rfl) (fun w => by kernel_rfl) ?_ w
  show Instr.fill _ zRdy [(0, _), (6, _), (2, _)] = _
  rw [fill_cons (off := 0) (n := 1) rfl rfl (by rw [zRdy_size]; omega), fill_cons (off := 47) (n := 1) rfl rfl (by rw [wr_size, zRdy_size]; omega), fill_cons (off := 41) (n := 1) rfl rfl (by rw [wr_size, wr_size, zRdy_size]; omega)]
  refine congrArg some ?_
  show ((zRdy.setIfInBounds 0 (.slice (some ⟨a6, 0, none⟩) 1 1)).setIfInBounds 47 (u64v p)).setIfInBounds 41 (.slice (some ⟨a9, 0, none⟩) 1 1) = _
  have h1 : zRdy.setIfInBounds 0 (.slice (some ⟨a6, 0, none⟩) 1 1) = rdr { rd0 with b := ⟨some ⟨a6, 0, none⟩, [b], 1⟩ } := set_b (x := rd0) (n := 1) (c := 1) [b] rfl
  rw [h1]
  have h2 : (rdr { rd0 with b := ⟨some ⟨a6, 0, none⟩, [b], 1⟩ }).setIfInBounds 47 (u64v p) = rdr { rd0 with b := ⟨some ⟨a6, 0, none⟩, [b], 1⟩, prio := p } := mx_setpost 8 _
  rw [h2]
  exact set_ro (x := { rd0 with b := ⟨some ⟨a6, 0, none⟩, [b], 1⟩, prio := p }) (n := 1) (c := 1) [r] rfl
set_option maxRecDepth 20000 in
set_option maxHeartbeats 1600000 in
theorem ready_c (p : UInt64) (b : UInt8) (w : World) : Calls Tryd.prog 10 #[u64v p, u8v b] w fun e w' => ∃ x : RdR, e = .returned (.agg (rdr x)) ∧ x.con = rdy p b ∧ RdOk w' x ∧ RdSm x.con ∧ Mod (fun _ => False) w w' := by
  have hb6 := bsByte b
  have hb8 : ∀ w, (Instr.build 75 #[(2, .bool true)]).run Tryd.prog w = .ok (.agg (rcr rolW)) w := fun w => by kernel_rfl
  have hb9 := bsRole rolW
  have hb10 := fun a6 a9 => bldRdy p a6 a9 b rolW
  go_enter Tryd.func10, Tryd.ntmps10
  go_upto_region 0 with fail
  refine wp_pass0 (C := fun _ _ _ => False) (κ := fun i => [3].getD i 0) [0] (by kernel_rfl) (by kernel_rfl) (fun _ _ d _ _ h => by cases d <;> first | exact h | exact absurd h (hP _ _ _)) ?_
  (refine TD.allocB (by simp only [zA, zB, zC]; rfl) rfl ?hw1 rfl rfl alRdy (fun p4 hp4 => ?hn1); (case hw1 => rfl); (try simp only [Act.put, zF, zG, zH]))
  refine TD.nil (fun w1 hr => ?_)
  have kp4 := hr.box p4 _ (by first | exact Bx.set_same _ _ _ | (simp only [Bx.set_same]; rfl)); dsimp only [Value.cells] at kp4; obtain ⟨gp4, kp4⟩ := kp4
  have m1 := hr.mod
  clear hr
  go_upto_region 1 with fail
  have Lkp4 := lt_size kp4
  refine wp_pass0 (C := fun _ _ _ => False) (κ := fun i => [0, 3, 0, 0, 3, 0, 5].getD i 0) [0, 1, 2, 3, 4, 5, 6] (by kernel_rfl) (by kernel_rfl) (fun _ _ d _ _ h => by cases d <;> first | exact h | exact absurd h (hP _ _ _)) ?_
  (refine TD.val0 (v := ?v2) (by simp only [zA, zB, zC]; rfl) rfl ?hw2 (fun w1 => ?hy2) ?hn2; (case hw2 => rfl); (case hy2 => (go_simp; (try with_reducible rfl))); (try simp only [Act.put, zF, zG, zH]))
  (refine TD.bslice (by simp only [zA, zB, zC]; rfl) rfl ?hw3 rfl rfl ?hx3 hb6 (fun p6 hp6 => ?hn3); (case hw3 => rfl); (case hx3 => (simp only [List.map_toArray, List.map_cons, List.map_nil, Act.eval, zD, zA, zB, zC, zE]; (try rfl))); (try simp only [Act.put, zF, zG, zH]))
  (refine TD.val0 (v := ?v4) (by simp only [zA, zB, zC]; rfl) rfl ?hw4 (fun w1 => ?hy4) ?hn4; (case hw4 => rfl); (case hy4 => (go_simp; (try with_reducible rfl))); (try simp only [Act.put, zF, zG, zH]))
  (refine TD.build (v := ?v5) (ps := ?p5) (by simp only [zA, zB, zC]; rfl) rfl ?hw5 rfl ?hx5 (fun w1 => ?hy5) ?hn5; (case hw5 => rfl); (case hx5 => (simp only [List.map_toArray, List.map_cons, List.map_nil, Act.eval, zD, zA, zB, zC, zE]; (try rfl))); (case hy5 => (rw [hb8]; (try with_reducible rfl))); (try simp only [Act.put, zF, zG, zH]))
  (refine TD.bslice (by simp only [zA, zB, zC]; rfl) rfl ?hw6 rfl rfl ?hx6 hb9 (fun p9 hp9 => ?hn6); (case hw6 => rfl); (case hx6 => (simp only [List.map_toArray, List.map_cons, List.map_nil, Act.eval, zD, zA, zB, zC, zE]; (try rfl))); (try simp only [Act.put, zF, zG, zH]))
  obtain ⟨ne_p9_p6, hp9⟩ := Bx.set_none hp9
  (refine TD.build (v := ?v7) (ps := ?p7) (by simp only [zA, zB, zC]; rfl) rfl ?hw7 rfl ?hx7 (fun w1 => ?hy7) ?hn7; (case hw7 => rfl); (case hx7 => (simp only [List.map_toArray, List.map_cons, List.map_nil, Act.eval, zD, zA, zB, zC, zE]; (try rfl))); (case hy7 => (rw [hb10]; (try with_reducible rfl))); (try simp only [Act.put, zF, zG, zH]))
  refine TD.eff (by simp only [zA, zB, zC]; rfl) rfl (fun w2 hr => ?_)
  have kp4 := hr.mod.at kp4 (fun h => h)
  have kp6 := hr.box p6 _ (by first | exact Bx.set_same _ _ _ | (simp only [Bx.set_ne _ (Ne.symm ne_p9_p6), Bx.set_ne _ ne_p9_p6, Bx.set_same]; rfl)); dsimp only [Value.cells] at kp6; obtain ⟨gp6, kp6⟩ := kp6
  have kp9 := hr.box p9 _ (by first | exact Bx.set_same _ _ _ | (simp only [Bx.set_ne _ (Ne.symm ne_p9_p6), Bx.set_ne _ ne_p9_p6, Bx.set_same]; rfl)); dsimp only [Value.cells] at kp9; obtain ⟨gp9, kp9⟩ := kp9
  have m2 := m1.then0 hr.mod
  have hne6 : p6 ≠ p4 := by have := lt_size kp4; have := gp6; have := Lkp4; omega
  have hne9 : p9 ≠ p4 := by have := gp9; have := Lkp4; omega
  clear hr hb6 hb8 hb9 hb10
  (refine eff_store (X := ?X9) (Y := ?Y9) (w' := ?w9) (by simp only [zA, zB, zC]; rfl) ?hw9 rfl ?hx9 ?hz9 ?hy9 ?hn9; (case hw9 => rfl); (case hx9 => (simp only [Act.eval, zD, zA, zB, zC, zE]; (try rfl))); (case hz9 => (simp only [Act.eval, zD, zA, zB, zC, zE]; (try rfl))); (case hy9 => (go_simp; (try with_reducible rfl))))
  (first | refine TE.nil_set kp4 (fun wn kp4 mS => ?_) | refine TE.nil_setCell kp4 (fun wn kp4 mS => ?_))
  (try simp only [Array.setIfInBounds, zF, zG, zH] at kp4)
  have m3 := m2.thenB mS (.inl gp4)
  have kp6 := mS.at kp6 hne6
  have kp9 := mS.at kp9 hne9
  clear mS
  go_wp2_with fail
  refine bodyPost_ret (results_cell1 (v := .agg (rdr { rd0 with b := ⟨some ⟨p6, 0, none⟩, [b], 1⟩, prio := p, ro := ⟨some ⟨p9, 0, none⟩, [rolW], 1⟩ })) rfl rfl (by rw [ldRdy]; simp [kp4, rdr_all, rdr_size])) rfl ⟨_, rfl, rfl, ?_, ?_, m3⟩
  · exact { rd0_ok _ with b := SlAt.one kp6 b rfl rfl, ro := SlAt.one kp9 rolW rfl (rc_size _ _ _) }
  · exact { rd0_sm with b := (by show [b].length ≤ 1000000; simp), ro := (by show [rolW].length ≤ 1000000; simp) }
set_option maxRecDepth 20000 in
set_option maxHeartbeats 1600000 in
theorem lrank_c (y : ItR) (w : World) : Calls Tryd.prog 16 #[.agg (itr y)] w fun e w' => e = .returned (.agg (rkc y.rk)) ∧ Mod (fun _ => False) w w' := by
  have hb0 : ∀ w, (Instr.build 60 #[(0, u64v y.r.prio), (1, u64v y.n)]).run Tryd.prog w = .ok (.agg (rkc y.rk)) w := fun w => by kernel_rfl
  go_enter Tryd.func16, Tryd.ntmps16
  go_upto_region 0 with fail
  refine wp_pass0 (C := fun _ _ _ => False) (κ := fun i => [3, 3].getD i 0) [0, 1] (by kernel_rfl) (by kernel_rfl) (fun _ _ d _ _ h => by cases d <;> first | exact h | exact absurd h (hP _ _ _)) ?_
  (refine TD.box (v := ?v10) (by simp only [zA, zB, zC]; rfl) rfl ?hw10 rfl rfl ?hx10 (fun p1 hp1 => ?hn10); (case hw10 => rfl); (case hx10 => (simp only [Act.eval, zD, zA, zB, zC, zE]; (try rfl))); (try simp only [Act.put, zF, zG, zH]))
  (refine TD.allocB (by simp only [zA, zB, zC]; rfl) rfl ?hw11 rfl rfl alRk (fun p2 hp2 => ?hn11); (case hw11 => rfl); (try simp only [Act.put, zF, zG, zH]))
  obtain ⟨ne_p2_p1, hp2⟩ := Bx.set_none hp2
  refine TD.nil (fun w1 hr => ?_)
  have kp1 := hr.box p1 _ (by first | exact Bx.set_same _ _ _ | (simp only [Bx.set_ne _ (Ne.symm ne_p2_p1), Bx.set_ne _ ne_p2_p1, Bx.set_same]; rfl)); dsimp only [Value.cells] at kp1; obtain ⟨gp1, kp1⟩ := kp1
  have kp2 := hr.box p2 _ (by first | exact Bx.set_same _ _ _ | (simp only [Bx.set_ne _ (Ne.symm ne_p2_p1), Bx.set_ne _ ne_p2_p1, Bx.set_same]; rfl)); dsimp only [Value.cells] at kp2; obtain ⟨gp2, kp2⟩ := kp2
  have m1 := hr.mod
  clear hr
  replace kp2 : w1.heap[p2]? = some (.cells #[.int .u64 0, .int .u64 0] 60 (0, 0)) := kp2
  go_upto_region 1 with fail
  have Lkp1 := lt_size kp1
  have Lkp2 := lt_size kp2
  refine wp_pass0 (C := fun _ _ _ => False) (κ := fun i => [0, 0, 1, 0, 1, 0, 5].getD i 0) [0, 1, 2, 3, 4, 5, 6] (by kernel_rfl) (by kernel_rfl) (fun _ _ d _ _ h => by cases d <;> first | exact h | exact absurd h (hP _ _ _)) ?_
  (refine TD.val0 (v := ?v12) (by simp only [zA, zB, zC]; rfl) rfl ?hw12 (fun w1 => ?hy12) ?hn12; (case hw12 => rfl); (case hy12 => (go_simp; (try with_reducible rfl))); (try simp only [Act.put, zF, zG, zH]))
  (refine TD.val0 (v := ?v13) (by simp only [zA, zB, zC]; rfl) rfl ?hw13 (fun w1 => ?hy13) ?hn13; (case hw13 => rfl); (case hy13 => (go_simp; (try with_reducible rfl))); (try simp only [Act.put, zF, zG, zH]))
  (refine TD.load (v := ?v14) (p := ?p14) (Mod.refl _ _) (by simp only [zA, zB, zC]; rfl) rfl ?hw14 rfl ?hx14 (fun wq hSq => ?hy14) ?hn14; (case hw14 => rfl); (case hx14 => (simp only [Act.eval, zD, zA, zB, zC, zE]; (try rfl))); (case hy14 => (have kp1q := hSq.at kp1 (fun h => h); have kp2q := hSq.at kp2 (fun h => h); go_simp; (try with_reducible rfl))); (try simp only [Act.put, zF, zG, zH]))
  (refine TD.val0 (v := ?v15) (by simp only [zA, zB, zC]; rfl) rfl ?hw15 (fun w1 => ?hy15) ?hn15; (case hw15 => rfl); (case hy15 => (go_simp; (try with_reducible rfl))); (try simp only [Act.put, zF, zG, zH]))
  (refine TD.load (v := ?v16) (p := ?p16) (Mod.refl _ _) (by simp only [zA, zB, zC]; rfl) rfl ?hw16 rfl ?hx16 (fun wq hSq => ?hy16) ?hn16; (case hw16 => rfl); (case hx16 => (simp only [Act.eval, zD, zA, zB, zC, zE]; (try rfl))); (case hy16 => (have kp1q := hSq.at kp1 (fun h => h); have kp2q := hSq.at kp2 (fun h => h); go_simp; (try with_reducible rfl))); (try simp only [Act.put, zF, zG, zH]))
  (refine TD.build (v := ?v17) (ps := ?p17) (by simp only [zA, zB, zC]; rfl) rfl ?hw17 rfl ?hx17 (fun w1 => ?hy17) ?hn17; (case hw17 => rfl); (case hx17 => (simp only [List.map_toArray, List.map_cons, List.map_nil, Act.eval, zD, zA, zB, zC, zE]; (try rfl))); (case hy17 => (rw [hb0]; (try with_reducible rfl))); (try simp only [Act.put, zF, zG, zH]))
  refine TD.eff (by simp only [zA, zB, zC]; rfl) rfl (fun w2 hr => ?_)
  have kp1 := hr.mod.at kp1 (fun h => h)
  have kp2 := hr.mod.at kp2 (fun h => h)
  have m2 := m1.then0 hr.mod
  clear hr
  (refine eff_store (X := ?X19) (Y := ?Y19) (w' := ?w19) (by simp only [zA, zB, zC]; rfl) ?hw19 rfl ?hx19 ?hz19 ?hy19 ?hn19; (case hw19 => rfl); (case hx19 => (simp only [Act.eval, zD, zA, zB, zC, zE]; (try rfl))); (case hz19 => (simp only [Act.eval, zD, zA, zB, zC, zE]; (try rfl))); (case hy19 => (go_simp; (try with_reducible rfl))))
  (first | refine TE.nil_set kp2 (fun wn kp2 mS => ?_) | refine TE.nil_setCell kp2 (fun wn kp2 mS => ?_))
  (try simp only [Array.setIfInBounds, zF, zG, zH] at kp2)
  have m3 := m2.thenB mS (.inl gp2)
  clear mS
  go_wp2_with fail
  exact bodyPost_ret (results_cell1 (v := .agg (rkc y.rk)) rfl rfl (by rw [ldRk]; simp [kp2, rkc])) rfl ⟨rfl, m3⟩
set_option maxRecDepth 20000 in
set_option maxHeartbeats 3200000 in
theorem numbA_c {a1 a2 : Option Addr} {c1 c2 : Nat} {l m : List UInt64} {w : World} (hv : SlAt nc 1 w a1 l) (hu : SlAt nc 1 w a2 m) (hl : l.length ≤ 900000) (hm : m.length ≤ 900000) : Calls Tryd.prog 23 #[.slice a1 l.length c1, .slice a2 m.length c2] w fun e w' => e = .returned (.bool (decide (l = m))) ∧ Mod (fun _ => False) w w' := by
  have HV := Lib.hid (And.intro hv hu)
  clear hv hu
  go_enter Tryd.func23, Tryd.ntmps23
  go_wp2_with fail
  go_loopw [5] (fun s5 ws => ∃ i : Nat, i ≤ l.length ∧ i ≤ m.length ∧ s5 = .int .i64 (i : Int) ∧ Hid (l.take i = m.take i) ∧ Mod (fun _ => False) w ws) (fun s5 _ => l.length - (intOf s5).toNat)
  case atStart => exact ⟨0, by omega, by omega, rfl, Lib.hid (by simp), Mod.refl _ _⟩
  case round =>
    obtain ⟨i, hi1, hi2, rfl, HT, hmw⟩ := hrel
    by_cases hlt : i < l.length
    · by_cases hlt2 : i < m.length
      · obtain ⟨x, hx⟩ : ∃ x, l[i]? = some x := ⟨_, List.getElem?_eq_getElem hlt⟩
        obtain ⟨y, hy⟩ : ∃ y, m[i]? = some y := ⟨_, List.getElem?_eq_getElem hlt2⟩
        obtain ⟨g1, o1, C1, U1, fr1, rfl, k1, he1, _⟩ := (HV.out.1.mod0 hmw).block hx
        obtain ⟨g2, o2, C2, U2, fr2, rfl, k2, he2, _⟩ := (HV.out.2.mod0 hmw).block hy
        have q1 : C1[o1 + i]? = some (u64v x) := by have h0 := cellC he1 (j := 0) (v := u64v x) rfl; simpa using h0
        have q2 : C2[o2 + i]? = some (u64v y) := by have h0 := cellC he2 (j := 0) (v := u64v y) rfl; simpa using h0
        clear he1 he2
        have HX := Lib.hid (And.intro hx hy)
        clear hx hy
        by_cases hxy : x = y
        · subst hxy
          go_upto_region 4 with fail
          have Lk1 := lt_size k1
          have Lk2 := lt_size k2
          refine wp_pass (C := fun _ _ _ => False) (κ := fun i => [0, 0, 0, 1, 0, 0, 0, 1, 0].getD i 0) [0, 1, 2, 3, 4, 5, 6, 7, 8] (by kernel_rfl) (by kernel_rfl) (fun _ _ d _ _ h => by cases d <;> first | exact h | exact absurd h (hP _ _ _)) ?_
          (refine TD.val0 (v := ?v20) (by simp only [zA, zB, zC]; rfl) rfl ?hw20 (fun w1 => ?hy20) ?hn20; (case hw20 => rfl); (case hy20 => (go_simp; (try with_reducible rfl))); (try simp only [Act.put, zF, zG, zH]))
          (refine TD.val0 (v := ?v21) (by simp only [zA, zB, zC]; rfl) rfl ?hw21 (fun w1 => ?hy21) ?hn21; (case hw21 => rfl); (case hy21 => (go_simp; (try with_reducible rfl))); (try simp only [Act.put, zF, zG, zH]))
          (refine TD.val0 (v := ?v22) (by simp only [zA, zB, zC]; rfl) rfl ?hw22 (fun w1 => ?hy22) ?hn22; (case hw22 => rfl); (case hy22 => (go_simp; (try with_reducible rfl))); (try simp only [Act.put, zF, zG, zH]))
          (refine TD.load (v := ?v23) (p := ?p23) (Mod.refl _ _) (by simp only [zA, zB, zC]; rfl) rfl ?hw23 rfl ?hx23 (fun wq hSq => ?hy23) ?hn23; (case hw23 => rfl); (case hx23 => (simp only [Act.eval, zD, zA, zB, zC, zE]; (try rfl))); (case hy23 => (have k1q := hSq.at k1 (fun h => h); have k2q := hSq.at k2 (fun h => h); go_simp; (try with_reducible rfl))); (try simp only [Act.put, zF, zG, zH]))
          (refine TD.val0 (v := ?v24) (by simp only [zA, zB, zC]; rfl) rfl ?hw24 (fun w1 => ?hy24) ?hn24; (case hw24 => rfl); (case hy24 => (go_simp; (try with_reducible rfl))); (try simp only [Act.put, zF, zG, zH]))
          (refine TD.val0 (v := ?v25) (by simp only [zA, zB, zC]; rfl) rfl ?hw25 (fun w1 => ?hy25) ?hn25; (case hw25 => rfl); (case hy25 => (go_simp; (try with_reducible rfl))); (try simp only [Act.put, zF, zG, zH]))
          (refine TD.val0 (v := ?v26) (by simp only [zA, zB, zC]; rfl) rfl ?hw26 (fun w1 => ?hy26) ?hn26; (case hw26 => rfl); (case hy26 => (go_simp; (try with_reducible rfl))); (try simp only [Act.put, zF, zG, zH]))
          (refine TD.load (v := ?v27) (p := ?p27) (Mod.refl _ _) (by simp only [zA, zB, zC]; rfl) rfl ?hw27 rfl ?hx27 (fun wq hSq => ?hy27) ?hn27; (case hw27 => rfl); (case hx27 => (simp only [Act.eval, zD, zA, zB, zC, zE]; (try rfl))); (case hy27 => (have k1q := hSq.at k1 (fun h => h); have k2q := hSq.at k2 (fun h => h); go_simp; (try with_reducible rfl))); (try simp only [Act.put, zF, zG, zH]))
          (refine TD.val0 (v := ?v28) (by simp only [zA, zB, zC]; rfl) rfl ?hw28 (fun w1 => ?hy28) ?hn28; (case hw28 => rfl); (case hy28 => (go_simp; (try with_reducible rfl))); (try simp only [Act.put, zF, zG, zH]))
          refine TD.nil (fun w2 hr => ?_)
          have k1 := hr.mod.at k1 (fun h => h)
          have k2 := hr.mod.at k2 (fun h => h)
          have mm := hmw.then0 hr.mod
          clear hr
          go_wp2_with fail
          go_roundw
          case rel => exact ⟨i + 1, by omega, by omega, by go_num, Lib.hid (by
            rw [List.take_add_one, List.take_add_one, HT.out, HX.out.1, HX.out.2]), mm⟩
          case measure => simp [intOf]; omega
        · have hde : ((x.toNat : Int) != (y.toNat : Int)) = true := by
            rw [bne_iff_ne]
            exact fun e => hxy (UInt64.toNat_inj.1 (by exact_mod_cast e))
          have HXY := Lib.hid hxy
          clear hxy
          go_upto_region 4 with fail
          have Lk1 := lt_size k1
          have Lk2 := lt_size k2
          refine wp_pass (C := fun _ _ _ => False) (κ := fun i => [0, 0, 0, 1, 0, 0, 0, 1, 0].getD i 0) [0, 1, 2, 3, 4, 5, 6, 7, 8] (by kernel_rfl) (by kernel_rfl) (fun _ _ d _ _ h => by cases d <;> first | exact h | exact absurd h (hP _ _ _)) ?_
          (refine TD.val0 (v := ?v29) (by simp only [zA, zB, zC]; rfl) rfl ?hw29 (fun w1 => ?hy29) ?hn29; (case hw29 => rfl); (case hy29 => (go_simp; (try with_reducible rfl))); (try simp only [Act.put, zF, zG, zH]))
          (refine TD.val0 (v := ?v30) (by simp only [zA, zB, zC]; rfl) rfl ?hw30 (fun w1 => ?hy30) ?hn30; (case hw30 => rfl); (case hy30 => (go_simp; (try with_reducible rfl))); (try simp only [Act.put, zF, zG, zH]))
          (refine TD.val0 (v := ?v31) (by simp only [zA, zB, zC]; rfl) rfl ?hw31 (fun w1 => ?hy31) ?hn31; (case hw31 => rfl); (case hy31 => (go_simp; (try with_reducible rfl))); (try simp only [Act.put, zF, zG, zH]))
          (refine TD.load (v := ?v32) (p := ?p32) (Mod.refl _ _) (by simp only [zA, zB, zC]; rfl) rfl ?hw32 rfl ?hx32 (fun wq hSq => ?hy32) ?hn32; (case hw32 => rfl); (case hx32 => (simp only [Act.eval, zD, zA, zB, zC, zE]; (try rfl))); (case hy32 => (have k1q := hSq.at k1 (fun h => h); have k2q := hSq.at k2 (fun h => h); go_simp; (try with_reducible rfl))); (try simp only [Act.put, zF, zG, zH]))
          (refine TD.val0 (v := ?v33) (by simp only [zA, zB, zC]; rfl) rfl ?hw33 (fun w1 => ?hy33) ?hn33; (case hw33 => rfl); (case hy33 => (go_simp; (try with_reducible rfl))); (try simp only [Act.put, zF, zG, zH]))
          (refine TD.val0 (v := ?v34) (by simp only [zA, zB, zC]; rfl) rfl ?hw34 (fun w1 => ?hy34) ?hn34; (case hw34 => rfl); (case hy34 => (go_simp; (try with_reducible rfl))); (try simp only [Act.put, zF, zG, zH]))
          (refine TD.val0 (v := ?v35) (by simp only [zA, zB, zC]; rfl) rfl ?hw35 (fun w1 => ?hy35) ?hn35; (case hw35 => rfl); (case hy35 => (go_simp; (try with_reducible rfl))); (try simp only [Act.put, zF, zG, zH]))
          (refine TD.load (v := ?v36) (p := ?p36) (Mod.refl _ _) (by simp only [zA, zB, zC]; rfl) rfl ?hw36 rfl ?hx36 (fun wq hSq => ?hy36) ?hn36; (case hw36 => rfl); (case hx36 => (simp only [Act.eval, zD, zA, zB, zC, zE]; (try rfl))); (case hy36 => (have k1q := hSq.at k1 (fun h => h); have k2q := hSq.at k2 (fun h => h); go_simp; (try with_reducible rfl))); (try simp only [Act.put, zF, zG, zH]))
          (refine TD.val0 (v := ?v37) (by simp only [zA, zB, zC]; rfl) rfl ?hw37 (fun w1 => ?hy37) ?hn37; (case hw37 => rfl); (case hy37 => (go_simp; (try with_reducible rfl))); (try simp only [Act.put, zF, zG, zH]))
          refine TD.nil (fun w2 hr => ?_)
          have k1 := hr.mod.at k1 (fun h => h)
          have k2 := hr.mod.at k2 (fun h => h)
          have mm := hmw.then0 hr.mod
          clear hr
          go_wp2_with fail
          go_ret
          refine ⟨?_, mm⟩
          rw [decide_eq_false (fun e => by
            subst e
            have := HX.out.1.symm.trans HX.out.2
            exact HXY.out (by injection this))]
          rfl
      · have hne : ((l.length : Int) == (m.length : Int)) = false := by rw [beq_eq_false_iff_ne]; omega
        go_wp2_with fail
        go_ret
        refine ⟨?_, hmw⟩
        rw [decide_eq_false (fun e => by rw [e] at hlt; omega)]
        rfl
    · have hie : i = l.length := by omega
      by_cases hle : l.length = m.length
      · have hll : l = m := by
          have := HT.out
          rw [List.take_of_length_le (by omega), List.take_of_length_le (by omega)] at this
          exact this
        have HLL := Lib.hid hll
        clear hll
        have hne : ((l.length : Int) == (m.length : Int)) = true := by rw [beq_iff_eq]; omega
        clear hle
        go_wp2_with fail
        go_ret
        exact ⟨by rw [decide_eq_true HLL.out]; rfl, hmw⟩
      · have hne : ((l.length : Int) == (m.length : Int)) = false := by rw [beq_eq_false_iff_ne]; omega
        go_wp2_with fail
        go_ret
        refine ⟨?_, hmw⟩
        rw [decide_eq_false (fun e => hle (by rw [e]))]
        rfl
theorem numb_c {v u : Value} {b b' : Nat} {l m : List UInt64} {w : World} (hv : SlOwn nc 1 30 w b v l) (hu : SlOwn nc 1 30 w b' u m) (hl : l.length ≤ 900000) (hm : m.length ≤ 900000) : Calls Tryd.prog 23 #[v, u] w fun e w' => e = .returned (.bool (decide (l = m))) ∧ Mod (fun _ => False) w w' := by
  obtain ⟨a1, c1, rfl, h1, _⟩ := hv.at u64T
  obtain ⟨a2, c2, rfl, h2, _⟩ := hu.at u64T
  exact numbA_c h1 h2 hl hm
end Go.Proofs.YtdeghpmlhcaedaaDoor
