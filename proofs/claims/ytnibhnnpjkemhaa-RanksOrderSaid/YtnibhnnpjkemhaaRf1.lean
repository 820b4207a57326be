/- The document's own heap: a list of nodes; New, Ahead, at. -/
import Derived.Test.YtnibhnnpjkemhaaRd2
namespace Go.Proofs.Ytnibhnnpjkemhaa
open Go.RowKit Go.Sort
open Go.ChangeMaps (setBlock)
set_option linter.unusedSimpArgs false
set_option linter.unusedVariables false
attribute [local go_sem ↓] wlRk ldRk stRk eqRk eqRk2
attribute [local go_sem] rkc_size ndc_size cell_blk frozen_blk one_int one_bool one_ptr one_slice one_map Value.cells rkc_all1
/-- A node's cells. -/
def rn (x : Nd) : Array Value := #[.int .u64 (x.r.p.toNat : Int), .int .u64 (x.r.n.toNat : Int), .int .i64 x.id.toInt]
@[simp] theorem rn_size (x : Nd) : (rn x).size = 3 := rfl
theorem rn_part {C : Array Value} {o : Nat} {x : Nd} (h : C.extract o (o + 3) = rn x) : C.extract o (o + 2) = rkc x.r ∧ C[o + 2]? = some (.int .i64 x.id.toInt) := by
  have h2 : (C.extract o (o + 3)).extract 0 2 = rkc x.r := by rw [h]; rfl
  refine ⟨?_, ?_⟩
  · rw [Array.extract_extract] at h2
    simpa using h2
  · exact cellC h rfl
theorem rnT : ElT Try.prog 67 71 rn 3 24 where
  u := Try.underlying67
  info := by
    obtain ⟨i0, hi, hz0, hz1, hz2⟩ := info_parts (show (Try.prog.info? 71).map (fun i => (i.zero, i.size, i.bytes)) = some (some (.agg #[.int .u64 0, .int .u64 0, .int .i64 0]), 3, 24) by kernel_rfl)
    exact ⟨i0, _, hi, hz0, hz1, hz2, rfl⟩
  pos := by omega
  size x := rfl
  one x u hu := by
    simp [rn] at hu
    rcases hu with rfl | rfl | rfl <;> rfl
section
variable {α : Type} {f : α → Array Value} {n B : Nat} {P : Program} {T E : TypeId}
/-- The first ones, and those behind them, of a slice. -/
theorem SlAt.take {w : World} {a : Option Addr} {l : List α} (h : SlAt f n w a l) (k : Nat) : SlAt f n w a (l.take k) := by
  rcases h with rfl | ⟨b, o, C, U, fr, rfl, hb, hc⟩
  · exact .inl (by simp)
  · refine .inr ⟨b, o, C, U, fr, rfl, hb, fun i x hx => hc i x ?_⟩
    rw [List.getElem?_take] at hx
    split at hx
    · exact hx
    · cases hx
theorem SlAt.drop {w : World} {g o : Nat} {l : List α} (h : SlAt f n w (some ⟨g, o, none⟩) l) (k : Nat) : SlAt f n w (some ⟨g, o + k * n, none⟩) (l.drop k) := by
  rcases h with rfl | ⟨b, o', C, U, fr, e, hb, hc⟩
  · exact .inl (by simp)
  · cases e
    refine .inr ⟨g, _, C, U, fr, rfl, hb, fun i x hx => ?_⟩
    rw [List.getElem?_drop] at hx
    have := hc (k + i) x hx
    rw [Nat.add_mul, ← Nat.add_assoc] at this
    exact this
theorem own_takeR (hT : ElT P T E f n B) {w : World} {base : Nat} {v : Value} {l : List α} (h : SlOwn f n E w base v l) {k : Nat} (hk : k ≤ l.length) :
    ∃ a c, (∀ w2, (Instr.sliceAt T v none (some (.int .i64 (k : Int))) none).run P w2 = .ok (.slice a k c) w2) ∧ SlAt f n w a (l.take k) ∧ ∀ b o, a = some ⟨b, o, none⟩ → v.ownBlock = some b := by
  obtain ⟨a, c, h1, h2, h3, h4⟩ := h.at hT
  rcases h.2 with ⟨rfl, hn⟩ | ⟨g, cap, cur, rfl, hb, hg, hnc, hcm, hcs, htake⟩
  · obtain rfl : l = [] := List.eq_nil_of_length_eq_zero hn
    obtain rfl : k = 0 := by simpa using hk
    obtain ⟨i0, z, hi, hz, hz1, hz2, hz3⟩ := hT.info
    refine ⟨none, 0, fun w2 => ?_, .inl (by simp), fun b o e => by cases e⟩
    simp only [Instr.sliceAt, Instr.slice, Instr.sliceBounds, Instr.sliceBound, asIntOf, sizeOf, typeInfo, run_underlying hT.u, hi, Sem.run_bind, Sem.run_pure, Result.andThen_ok]
    rw [if_pos ⟨by omega, by omega⟩]
    simp [Sem.run_pure, Result.andThen_ok, Go.program, Sem.run, hi, hz1]
  · injection h1 with e1 e2 e3
    subst e1
    exact ⟨_, cap, fun w2 => sl_take hT (by omega) w2, h2.take k, fun b o e => by cases e; rfl⟩
theorem own_dropR (hT : ElT P T E f n B) {w : World} {base : Nat} {v : Value} {l : List α} (h : SlOwn f n E w base v l) {k : Nat} (hk : k ≤ l.length) :
    ∃ a c, (∀ w2, (Instr.sliceAt T v (some (.int .i64 (k : Int))) none none).run P w2 = .ok (.slice a (l.drop k).length c) w2) ∧ SlAt f n w a (l.drop k) ∧ ∀ b o, a = some ⟨b, o, none⟩ → v.ownBlock = some b := by
  obtain ⟨a, c, h1, h2, h3, h4⟩ := h.at hT
  rcases h.2 with ⟨rfl, hn⟩ | ⟨g, cap, cur, rfl, hb, hg, hnc, hcm, hcs, htake⟩
  · obtain rfl : l = [] := List.eq_nil_of_length_eq_zero hn
    obtain rfl : k = 0 := by simpa using hk
    obtain ⟨i0, z, hi, hz, hz1, hz2, hz3⟩ := hT.info
    refine ⟨none, 0, fun w2 => ?_, .inl (by simp), fun b o e => by cases e⟩
    simp only [Instr.sliceAt, Instr.slice, Instr.sliceBounds, Instr.sliceBound, asIntOf, sizeOf, typeInfo, run_underlying hT.u, hi, Sem.run_bind, Sem.run_pure, Result.andThen_ok]
    rw [if_pos ⟨by omega, by omega⟩]
    simp [Sem.run_pure, Result.andThen_ok, Go.program, Sem.run, hi, hz1]
  · injection h1 with e1 e2 e3
    subst e1
    refine ⟨some (if cap = k then ⟨g, 0, none⟩ else ⟨g, 0 + k * n, none⟩), cap - k, fun w2 => ?_, ?_, fun b o e => by split at e <;> cases e <;> rfl⟩
    · rw [sl_drop hT hk hnc w2, List.length_drop]
    · by_cases hc : cap = k
      · rw [if_pos hc, List.drop_of_length_le (by omega)]
        exact .inl rfl
      · rw [if_neg hc]
        exact h2.drop k
end
/-- The document's heap at p holds L. -/
def RAt (p : Nat) (L : List Nd) (T : Nat → Prop) (w : World) : Prop := ∃ v, w.heap[p]? = some (.cells #[v] 69 (0, 0)) ∧ SlOwn rn 3 71 w 0 v L ∧ T p ∧ ∀ g, v.ownBlock = some g → T g
theorem RAt.good (p : Nat) (L : List Nd) : Good (RAt p L) where
  cl := by
    rintro T w w' ⟨v, k, hO, hp, hg⟩ hm
    exact ⟨v, hm.at k (fun h => h hp), hO.mod hm (fun g hv h => h (hg g hv)), hp, hg⟩
  gr := by
    rintro T T' w hT ⟨v, k, hO, hp, hg⟩
    exact ⟨v, k, hO, hT _ hp, fun g hv => hT _ (hg g hv)⟩
theorem RAt.sl {w : World} {p : Nat} {L : List Nd} {T : Nat → Prop} (h : RAt p L T w) : ∃ a c, w.heap[p]? = some (.cells #[.slice a L.length c] 69 (0, 0)) ∧ SlAt rn 3 w a L := by
  obtain ⟨v, k, hO, _⟩ := h
  obtain ⟨a, c, rfl, hs, _⟩ := hO.at rnT
  exact ⟨a, c, k, hs⟩
theorem bldH (w : World) : (Instr.build 69 #[]).run Try.prog w = .ok (.agg #[.slice none 0 0]) w := by kernel_rfl
theorem rnew_c (w : World) : Calls Try.prog 11 #[] w fun e w' => e = .returned (ptrV w.heap.size) ∧ w' = w.alloc (.cells #[.slice none 0 0] 69) := by
  have hb := bldH
  go_enter Try.func11, Try.ntmps11
  go_wp2_with fail
  go_ret
  exact ⟨rfl, rfl⟩
set_option maxHeartbeats 1600000 in
theorem rAhead_c (a b : Rk) (w : World) : Calls Try.prog 21 #[.agg (rkc a), .agg (rkc b)] w fun e w' => e = .returned (.bool (Ahead a b)) ∧ Mod (fun _ => False) w w' := by
  go_enter Try.func21, Try.ntmps21
  go_upto_region 1 with fail
  have k1 := (fresh2 w (.cells (rkc a) 30) (.cells (rkc b) 30)).1
  have k2 := (fresh2 w (.cells (rkc a) 30) (.cells (rkc b) 30)).2
  have m2 : Mod (fun _ => False) w ((w.alloc (.cells (rkc a) 30)).alloc (.cells (rkc b) 30)) := ((Mod.refl _ _).alloc _).alloc _
  generalize (w.alloc (.cells (rkc a) 30)).alloc (.cells (rkc b) 30) = w2 at *
  generalize w.heap.size = n at *
  obtain ⟨p, m⟩ := a
  obtain ⟨p', m'⟩ := b
  simp only [rkc] at k1 k2
  rcases Nat.lt_trichotomy p'.toNat p.toNat with h | h | h
  · have hA : Hid (Ahead ⟨p, m⟩ ⟨p', m'⟩ = true) := Lib.hid (by
      have hne : p ≠ p' := fun e => by rw [e] at h; omega
      simp [Ahead, hne, h])
    have hd : decide (p'.toNat < p.toNat) = true := decide_eq_true h
    clear h
    go_wp2_with fail
    go_ret
    exact ⟨by rw [hA.out]; rfl, m2⟩
  · have hpe : p = p' := UInt64.toNat_inj.1 h.symm
    subst hpe
    clear h
    have hA : Hid (Ahead ⟨p, m⟩ ⟨p, m'⟩ = decide (m.toNat < m'.toNat)) := Lib.hid (by simp [Ahead])
    go_wp2_with fail
    go_ret
    exact ⟨by rw [hA.out]; simp, m2⟩
  · have hA : Hid (Ahead ⟨p, m⟩ ⟨p', m'⟩ = false) := Lib.hid (by
      have hne : p ≠ p' := fun e => by rw [e] at h; omega
      simp [Ahead, hne]
      omega)
    have hd : decide (p'.toNat < p.toNat) = false := decide_eq_false (by omega)
    have hd2 : (p.toNat == p'.toNat) = false := by rw [beq_eq_false_iff_ne]; omega
    have hd3 : ¬ p.toNat = p'.toNat := by omega
    clear h
    go_wp2_with fail
    go_ret
    exact ⟨by rw [hA.out]; rfl, m2⟩
theorem rat_loop {p : Nat} {L : List Nd} {T : Nat → Prop} {w : World} (h : RAt p L T w) (id : Int64) (hL : L.length ≤ 900000) : Calls Try.prog 32 #[ptrV p, .int .i64 id.toInt] w fun e w' =>
    ((∃ (i : Nat) (x : Nd), e = .returned (.int .i64 (i : Int)) ∧ L[i]? = some x ∧ x.id = id) ∨ (e = .returned (.int .i64 (-1)) ∧ ∀ x ∈ L, x.id ≠ id)) ∧ Mod (fun _ => False) w w' := by
  obtain ⟨a, c, kr, hs⟩ := h.sl
  clear h
  go_enter Try.func32, Try.ntmps32
  go_wp2_with fail
  go_loopw [5] (fun s5 ws => ∃ i : Nat, i ≤ L.length ∧ s5 = .int .i64 (i : Int) ∧ Hid (∀ j x, j < i → L[j]? = some x → x.id ≠ id) ∧ Mod (fun _ => False) w ws) (fun s5 _ => L.length - (intOf s5).toNat)
  case atStart => exact ⟨0, by omega, rfl, Lib.hid (fun j x hj => by omega), Mod.refl _ _⟩
  case round =>
    obtain ⟨i, hi, rfl, HG, hm⟩ := hrel
    have kr := hm.at0 kr
    by_cases hlt : i < L.length
    · obtain ⟨x, hx⟩ : ∃ x, L[i]? = some x := ⟨_, List.getElem?_eq_getElem hlt⟩
      obtain ⟨g, o, C, U, fr, rfl, kl, he, hle⟩ := (hs.mod0 hm).block hx
      obtain ⟨e1, e2⟩ := rn_part he
      have HX := Lib.hid hx
      clear he hx hs
      by_cases hxk : x.id = id
      · have hde : (x.id.toInt == id.toInt) = true := by rw [hxk]; simp
        have HK := Lib.hid hxk
        clear hxk
        go_wp2_with fail
        go_ret
        exact ⟨.inl ⟨i, x, rfl, HX.out, HK.out⟩, hm⟩
      · have hde : (x.id.toInt == id.toInt) = false := by
          rw [beq_eq_false_iff_ne]
          exact fun e => hxk (Int64.toInt_inj.1 e)
        have HK := Lib.hid hxk
        clear hxk
        go_wp2_with fail
        go_roundw
        case rel => exact ⟨i + 1, by omega, by go_num, Lib.hid (fun j y hj hy => by
          by_cases e : j = i
          · subst e
            rw [HX.out] at hy
            cases hy
            exact HK.out
          · exact HG.out j y (by omega) hy), hm⟩
        case measure => simp [intOf]; omega
    · obtain rfl : i = L.length := by omega
      go_wp2_with fail
      go_ret
      refine ⟨.inr ⟨rfl, fun x hx => ?_⟩, hm⟩
      obtain ⟨j, hj⟩ := List.mem_iff_getElem?.1 hx
      exact HG.out j x (List.getElem?_eq_some_iff.1 hj).1 hj
end Go.Proofs.Ytnibhnnpjkemhaa
