/- What is handed in: a key, a role, a list of roles, an act, a list of acts; read off the given reading. -/
import Derived.Test.YtleenmldlbccmaaMask
import Derived.ProofKit
import Derived.OpenShut
namespace Go.Proofs.Ytleenmldlbccmaa
set_option linter.unusedVariables false
set_option linter.unusedSimpArgs false
open Go.ChangeShapes Go.WideShapes Go.ChangeAt Go.RowKit
/-- The cells of a row, read one by one. -/
theorem cells_row {w : World} {base : Nat} {a : Addr} {n : Nat} {cs : List Value} (h : w.cells? base a n = some cs) (hn : 0 < n) :
    cs.length = n ∧ ∃ C U fr, a = ⟨a.block, a.off, none⟩ ∧ w.heap[a.block]? = some (.cells C U fr) ∧ C.extract a.off (a.off + n) = cs.toArray ∧ a.off + n ≤ C.size := by
  obtain ⟨_, hl, hc⟩ := World.cells?_some h
  refine ⟨hl, ?_⟩
  have h0 := hc 0 hn
  rw [show a.add 0 = a from rfl] at h0
  have hs : w.cell? a = some cs[0] := by rw [h0, List.getElem?_eq_getElem (by omega)]
  have hsp := World.cell?_spot hs
  obtain ⟨b, o, sp⟩ := a
  cases hsp
  cases hb : w.heap[b]? with
  | none => simp [World.cell?, hb] at hs
  | some ob =>
    cases ob with
    | cells C U fr =>
      have hcell : ∀ i, i < n → C[o + i]? = cs[i]? := fun i hi => by
        have := hc i hi
        rw [← this]
        unfold Addr.add
        by_cases hi0 : i = 0
        · subst hi0
          simp [World.cell?, hb]
        · rw [if_neg hi0]
          simp [World.cell?, hb]
      have hsz : o + n ≤ C.size := by
        have h1 := hcell (n - 1) (by omega)
        rw [List.getElem?_eq_getElem (by omega)] at h1
        have := (Array.getElem?_eq_some_iff.1 h1).1
        omega
      refine ⟨C, U, fr, rfl, rfl, ?_, hsz⟩
      apply Array.ext_getElem?
      intro i
      simp only [Array.getElem?_extract, List.getElem?_toArray]
      by_cases hi : i < n
      · rw [if_pos (by omega), hcell i hi]
      · rw [if_neg (by omega), List.getElem?_eq_none (by omega)]
    | _ => simp [World.cell?, hb] at hs
theorem take1 {l : List Value} {n : Nat} {v : Value} (h : (l.drop n).take 1 = [v]) : l[n]? = some v := by
  have := congrArg (fun l => l[0]?) h
  simpa using this
section
variable {H : Type} {enc : TypeId × Value → H} {w : World} {base : Nat} {sp : Nat → Bool} {held : Bool}
theorem key_of {fuel : Nat} {cs : List Value} {x : DataW H × List MemPlace} (h : DataW.trod enc Try.prog w base sp held fuel 42 cs = some x) : ∃ k : Key, cs.toArray = kc k := by
  obtain ⟨xs, m, rfl, rfl, hl, hx, hi⟩ := DataW.trod_array Try.underlying42 h
  have hl : cs.length = 32 := hl.trans (by kernel_rfl)
  have hget : ∀ i, i < 32 → ∃ n : UInt8, cs[i]? = some (bc n) := fun i h32 => by
    have hq := hi i h32
    rw [show Try.prog.cellsOf 5 = 1 by kernel_rfl, Nat.mul_one, List.getElem?_eq_getElem (by omega)] at hq
    obtain ⟨n, hn, _, hw⟩ := DataW.trod_int Try.underlying5 hq
    have hb := bounds_u8 hw
    refine ⟨UInt8.ofNat n.toNat, ?_⟩
    rw [take1 hn]
    unfold bc
    have : ((UInt8.ofNat n.toNat).toNat : Int) = n := by
      rw [UInt8.toNat_ofNat']
      omega
    rw [this]
  let f : Value → UInt8 := fun v => match v with
    | .int _ n => UInt8.ofNat n.toNat
    | _ => 0
  refine ⟨⟨cs.map f, by simp [hl]⟩, ?_⟩
  apply Array.ext_getElem?
  intro i
  unfold kc
  simp only [List.getElem?_toArray, List.map_map, List.getElem?_map]
  by_cases h32 : i < 32
  · obtain ⟨n, hn⟩ := hget i h32
    rw [hn]
    have : bc (f (bc n)) = bc n := by
      show bc (UInt8.ofNat ((n.toNat : Int).toNat)) = bc n
      rw [Int.toNat_natCast, UInt8.ofNat_toNat]
    simp [this]
  · rw [List.getElem?_eq_none (by omega)]
    rfl
theorem role_of {fuel : Nat} {cs : List Value} {x : DataW H × List MemPlace} (h : DataW.trod enc Try.prog w base sp held fuel 44 cs = some x) : ∃ r : Role, cs.toArray = rc r.k r.s r.w := by
  obtain ⟨xs, m, rfl, rfl, hl, hx, hi⟩ := DataW.trod_struct Try.underlying44 h
  have hl : cs.length = 34 := hl.trans (by kernel_rfl)
  have hx : xs.length = 3 := hx
  have h0 : DataW.trod enc Try.prog w base sp held m 42 ((cs.drop 0).take (Try.prog.cellsOf 42)) = xs[0]? := hi 0 _ rfl
  have h1 : DataW.trod enc Try.prog w base sp held m 4 ((cs.drop 32).take (Try.prog.cellsOf 4)) = xs[1]? := hi 1 _ rfl
  have h2 : DataW.trod enc Try.prog w base sp held m 4 ((cs.drop 33).take (Try.prog.cellsOf 4)) = xs[2]? := hi 2 _ rfl
  rw [List.getElem?_eq_getElem (by omega)] at h0 h1 h2
  rw [show Try.prog.cellsOf 42 = 32 by kernel_rfl] at h0
  rw [show Try.prog.cellsOf 4 = 1 by kernel_rfl] at h1 h2
  obtain ⟨k, hk⟩ := key_of h0
  obtain ⟨s, hs, _⟩ := DataW.trod_bool Try.underlying4 h1
  obtain ⟨b, hb, _⟩ := DataW.trod_bool Try.underlying4 h2
  refine ⟨⟨k, s, b⟩, ?_⟩
  unfold rc kx
  rw [← hk]
  have e : cs = (cs.drop 0).take 32 ++ ((cs.drop 32).take 1 ++ (cs.drop 33).take 1) := by
    have e3 : (cs.drop 33).take 1 = cs.drop 33 := List.take_of_length_le (by simp [hl])
    rw [e3, show cs.drop 33 = (cs.drop 32).drop 1 by simp, List.take_append_drop, List.drop_zero, List.take_append_drop]
  rw [hs, hb] at e
  conv => lhs; rw [e]
  simp
theorem roles_of {fuel : Nat} {cs : List Value} {x : DataW H × List MemPlace} (h : DataW.trod enc Try.prog w base sp held fuel 23 cs = some x) :
    ∃ (a : Option Addr) (l : List Role) (c : Nat), cs = [.slice a l.length c] ∧ RolesAt w a l ∧ l.length ≤ maxLen ∧ (∀ x, a = some x → x.block < w.heap.size ∨ l = []) := by
  rcases DataW.trod_slice Try.underlying23 h with ⟨rfl, _⟩ | ⟨a, len, cap, elems, rest, n, rfl, rfl, rfl, _, hlc, hcm, hel, hi, _⟩
  · exact ⟨none, [], 0, rfl, .inl rfl, by simp, fun x hx => by cases hx⟩
  · have hrow : ∀ i, i < len → ∃ (r : Role) (C : Array Value) (U : TypeId) (fr : Nat × Nat), a = ⟨a.block, a.off, none⟩ ∧ w.heap[a.block]? = some (.cells C U fr) ∧ C.extract (a.off + i * 34) (a.off + i * 34 + 34) = rc r.k r.s r.w ∧ a.off + i * 34 + 34 ≤ C.size := fun i hlt => by
      have hq := hi i hlt
      rw [List.getElem?_eq_getElem (by omega), show Try.prog.cellsOf 44 = 34 by kernel_rfl, Option.bind_eq_some_iff] at hq
      obtain ⟨c1, hc1, ht⟩ := hq
      obtain ⟨r, hr⟩ := role_of ht
      obtain ⟨_, C, U, fr, ha, hb, he, hsz⟩ := cells_row hc1 (by omega)
      rw [hr] at he
      unfold Addr.add at ha hb he hsz
      by_cases h0 : i * 34 = 0
      · rw [if_pos h0] at ha hb he hsz
        exact ⟨r, C, U, fr, ha, hb, by rw [h0]; exact he, by omega⟩
      · rw [if_neg h0] at ha hb he hsz
        have hi0 : 0 < i := by omega
        have hq0 := hi 0 (by omega)
        rw [List.getElem?_eq_getElem (by omega), show Try.prog.cellsOf 44 = 34 by kernel_rfl, Option.bind_eq_some_iff] at hq0
        obtain ⟨c2, hc2, _⟩ := hq0
        obtain ⟨_, _, _, _, ha2, _⟩ := cells_row hc2 (by omega)
        exact ⟨r, C, U, fr, ha2, hb, he, hsz⟩
    let g : Nat → Role := fun i => if hlt : i < len then (hrow i hlt).choose else ⟨⟨List.replicate 32 0, rfl⟩, false, false⟩
    refine ⟨some a, (List.range len).map g, cap, by simp, ?_, by simp; omega, fun x hx => ?_⟩
    · by_cases hz : len = 0
      · subst hz
        exact .inl rfl
      · obtain ⟨r0, C, U, fr, ha, hb, _, _⟩ := hrow 0 (by omega)
        refine .inr ⟨a.block, a.off, C, U, fr, by rw [← ha], hb, fun i r hr => ?_⟩
        rw [List.getElem?_map] at hr
        by_cases hlt : i < len
        · rw [List.getElem?_range hlt] at hr
          simp only [Option.map_some, Option.some.injEq] at hr
          subst hr
          have hs := (hrow i hlt).choose_spec
          obtain ⟨C', U', fr', _, hb', he, hsz⟩ := hs
          rw [hb] at hb'
          cases hb'
          show C.extract _ _ = rc (g i).k (g i).s (g i).w ∧ _
          have : g i = (hrow i hlt).choose := by
            show (if hlt : i < len then (hrow i hlt).choose else _) = _
            rw [dif_pos hlt]
          rw [this]
          exact ⟨he, hsz⟩
        · rw [List.getElem?_eq_none (by simp; omega)] at hr
          simp at hr
    · cases hx
      by_cases hz : len = 0
      · subst hz
        exact .inr rfl
      · obtain ⟨r0, C, U, fr, ha, hb, _, _⟩ := hrow 0 (by omega)
        exact .inl (lt_size hb)
end
structure ActT where
  back : Bool
  a : Option Addr
  l : List Role
  c : Nat
  n : Int
def ac (x : ActT) : List Value := [.bool x.back, .slice x.a x.l.length x.c, .int .i64 x.n]
def ActOk (w : World) (x : ActT) : Prop := RolesAt w x.a x.l ∧ x.l.length ≤ maxLen ∧ (∀ y, x.a = some y → y.block < w.heap.size ∨ x.l = []) ∧ -9223372036854775808 ≤ x.n ∧ x.n ≤ 9223372036854775807
section
variable {H : Type} {enc : TypeId × Value → H} {w : World} {base : Nat} {sp : Nat → Bool} {held : Bool}
theorem act_of {fuel : Nat} {cs : List Value} {x : DataW H × List MemPlace} (h : DataW.trod enc Try.prog w base sp held fuel 34 cs = some x) : ∃ x : ActT, cs = ac x ∧ ActOk w x := by
  obtain ⟨xs, m, rfl, rfl, hl, hx, hi⟩ := DataW.trod_struct Try.underlying34 h
  have hl : cs.length = 3 := hl.trans (by kernel_rfl)
  have hx : xs.length = 3 := hx
  have h0 : DataW.trod enc Try.prog w base sp held m 4 ((cs.drop 0).take (Try.prog.cellsOf 4)) = xs[0]? := hi 0 _ rfl
  have h1 : DataW.trod enc Try.prog w base sp held m 23 ((cs.drop 1).take (Try.prog.cellsOf 23)) = xs[1]? := hi 1 _ rfl
  have h2 : DataW.trod enc Try.prog w base sp held m 3 ((cs.drop 2).take (Try.prog.cellsOf 3)) = xs[2]? := hi 2 _ rfl
  rw [List.getElem?_eq_getElem (by omega)] at h0 h1 h2
  rw [show Try.prog.cellsOf 4 = 1 by kernel_rfl] at h0
  rw [show Try.prog.cellsOf 23 = 1 by kernel_rfl] at h1
  rw [show Try.prog.cellsOf 3 = 1 by kernel_rfl] at h2
  obtain ⟨b, hb, _⟩ := DataW.trod_bool Try.underlying4 h0
  obtain ⟨a, l, c, hs, hr, hlm, hlt⟩ := roles_of h1
  obtain ⟨n, hn, _, hw⟩ := DataW.trod_int Try.underlying3 h2
  refine ⟨⟨b, a, l, c, n⟩, ?_, hr, hlm, hlt, bounds_i64 hw⟩
  have e : cs = (cs.drop 0).take 1 ++ ((cs.drop 1).take 1 ++ (cs.drop 2).take 1) := by
    have e3 : (cs.drop 2).take 1 = cs.drop 2 := List.take_of_length_le (by simp [hl])
    rw [e3, show cs.drop 2 = (cs.drop 1).drop 1 by simp, List.take_append_drop, List.drop_zero, List.take_append_drop]
  rw [hb, hs, hn] at e
  rw [e]
  rfl
end
end Go.Proofs.Ytleenmldlbccmaa
