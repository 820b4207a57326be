/- One text out of several: Bi Bj Bk. -/
import Derived.Test.YtdeghpmlhcaedaaDoorMB
import Derived.OwnWalk
/- Buffers: Add, its steps. -/
namespace Go.Proofs.YtdeghpmlhcaedaaDoor
open Go.RowKit
open Go.ChangeMaps (setBlock)
set_option linter.unusedSimpArgs false
set_option linter.unusedVariables false
/-- A buffer with the set of its blocks told. -/
def BHo (w0 : World) (O : Nat → Prop) (b : Nat) (S : List (Option It)) (T : Nat → Prop) (ws : World) : Prop := ∃ s h R C Ts Th Tr, Bf ws b s h R C Ts Th Tr ∧ S = conS R ∧ C.Perm (wtg 0 S) ∧ (∀ i, (Ts i ∨ Th i ∨ Tr i ∨ i = b) ↔ T i) ∧ (∀ i, T i → (O i ∨ w0.heap.size ≤ i) ∧ i < ws.heap.size) ∧ Mod O w0 ws
theorem BHo.bh {w0 ws : World} {O T : Nat → Prop} {b : Nat} {S : List (Option It)} (H : BHo w0 O b S T ws) : BH w0 O b S ws := by
  obtain ⟨s, h, R, C, Ts, Th, Tr, HB, hS, hp, hE, hT, m⟩ := H
  exact ⟨s, h, R, C, Ts, Th, Tr, HB, hS, hp, fun i hi => hT i ((hE i).1 hi), m⟩
theorem BH.o {w0 ws : World} {O : Nat → Prop} {b : Nat} {S : List (Option It)} (H : BH w0 O b S ws) : ∃ T, BHo w0 O b S T ws := by
  obtain ⟨s, h, R, C, Ts, Th, Tr, HB, hS, hp, hT, m⟩ := H
  exact ⟨fun i => Ts i ∨ Th i ∨ Tr i ∨ i = b, s, h, R, C, Ts, Th, Tr, HB, hS, hp, fun i => Iff.rfl, hT, m⟩
/-- A buffer whose blocks are T, and none of them is the first one. -/
def BO (b : Nat) (S : List (Option It)) (T : Nat → Prop) (w : World) : Prop := BHo w T b S T w ∧ ¬ T 0 ∧ 0 < w.heap.size
theorem BO.bh {w : World} {T : Nat → Prop} {b : Nat} {S : List (Option It)} (H : BO b S T w) : BH w T b S w := H.1.bh
theorem BO.h0 {w : World} {T : Nat → Prop} {b : Nat} {S : List (Option It)} (H : BO b S T w) : 0 < w.heap.size ∧ ¬ T 0 := ⟨H.2.2, H.2.1⟩
theorem BO.lt {w : World} {T : Nat → Prop} {b : Nat} {S : List (Option It)} (H : BO b S T w) : ∀ i, T i → i < w.heap.size := by
  obtain ⟨⟨s, h, R, C, Ts, Th, Tr, HB, hS, hp, hE, hT, m⟩, _⟩ := H
  exact fun i hi => (hT i hi).2
theorem BO.modT {w w' : World} {T X : Nat → Prop} {b : Nat} {S : List (Option It)} (H : BO b S T w) (hm : Mod X w w') (hX : ∀ i, T i → ¬ X i) : BO b S T w' := by
  obtain ⟨⟨s, h, R, C, Ts, Th, Tr, HB, hS, hp, hE, hT, m⟩, h1, h2⟩ := H
  have hn : ∀ {Y : Nat → Prop}, (∀ i, Y i → Ts i ∨ Th i ∨ Tr i ∨ i = b) → Mod (fun i => ¬ Y i) w w' := fun hY => hm.mono (fun i _ e k => hX i ((hE i).1 (hY i k)) e)
  refine ⟨⟨s, h, R, C, Ts, Th, Tr, ⟨hm.at HB.kb (fun e => hX b ((hE b).1 (.inr (.inr (.inr rfl)))) e), (SAt.good s R).cl Ts w w' HB.sat (hn (fun i h => .inl h)), (HAt.good h C).cl Th w w' HB.hat (hn (fun i h => .inr (.inl h))), fun i y hy => ⟨(HB.rd i y hy).1.mod (hn (Y := Tr) (fun i h => .inr (.inr (.inl h)))) (HB.rd i y hy).2.1 (fun j hj e => e hj), (HB.rd i y hy).2⟩, HB.dsh, HB.drs, HB.drh, HB.db⟩, hS, hp, hE, fun i hi => ⟨.inl hi, Nat.lt_of_lt_of_le (hT i hi).2 hm.size⟩, Mod.refl _ _⟩, h1, Nat.lt_of_lt_of_le h2 hm.size⟩
theorem BO.mod0 {w w' : World} {T : Nat → Prop} {b : Nat} {S : List (Option It)} (H : BO b S T w) (hm : Mod (fun _ => False) w w') : BO b S T w' := H.modT hm (fun _ _ h => h)
theorem BHo.bo {w w' : World} {T T' : Nat → Prop} {b : Nat} {S : List (Option It)} (H : BHo w T b S T' w') (h0 : 0 < w.heap.size ∧ ¬ T 0) : BO b S T' w' ∧ Mod T w w' ∧ ∀ i, T' i → T i ∨ w.heap.size ≤ i := by
  obtain ⟨s, h, R, C, Ts, Th, Tr, HB, hS, hp, hE, hT, m⟩ := H
  refine ⟨⟨⟨s, h, R, C, Ts, Th, Tr, HB, hS, hp, hE, fun i hi => ⟨.inl hi, (hT i hi).2⟩, Mod.refl _ _⟩, fun e => ?_, Nat.lt_of_lt_of_le h0.1 m.size⟩, m, fun i hi => (hT i hi).1⟩
  rcases (hT 0 e).1 with h | h
  · exact h0.2 h
  · have := h0.1; omega
/-- What a call did to it. -/
theorem BO.then {w w' : World} {T : Nat → Prop} {b : Nat} {S S' : List (Option It)} (H : BO b S T w) (H' : BH w T b S' w') : ∃ T', BO b S' T' w' ∧ Mod T w w' ∧ ∀ i, T' i → T i ∨ w.heap.size ≤ i := by
  obtain ⟨T', H2⟩ := H'.o
  exact ⟨T', H2.bo H.h0⟩
/-- Between the steps of Add: the heap does not hold i. -/
structure Mi (w0 : World) (O : Nat → Prop) (b i : Nat) (R : List (Option ItR)) (s h : Nat) (C : List Nd) (Ts Th Tr : Nat → Prop) (w : World) : Prop where
  bf : Bf w b s h R C Ts Th Tr
  perm : C.Perm (wtgo i (conS R))
  lt : ∀ j, Ts j ∨ Th j ∨ Tr j ∨ j = b → (O j ∨ w0.heap.size ≤ j) ∧ j < w.heap.size
  m : Mod O w0 w
/-- The least place that none has. -/
def FreeS {α : Type} (S : List (Option α)) (n : Nat) : Prop := S[n]? = some none ∧ ∀ i, i < n → ∃ y, S[i]? = some (some y)
theorem FreeS.uniq {α : Type} {S : List (Option α)} {n m : Nat} (h : FreeS S n) (k : FreeS S m) : n = m := by
  rcases Nat.lt_trichotomy n m with hl | hl | hl
  · obtain ⟨y, hy⟩ := k.2 n hl
    rw [h.1] at hy
    cases hy
  · exact hl
  · obtain ⟨y, hy⟩ := h.2 m hl
    rw [k.1] at hy
    cases hy
theorem FreeAt.s {R : List (Option ItR)} {n : Nat} (h : FreeAt R n) : FreeS (conS R) n := by
  refine ⟨?_, fun i hi => ?_⟩
  · unfold conS
    rw [List.getElem?_map, h.1]
    rfl
  · have ho := h.2 i hi
    have hlt := (List.getElem?_eq_some_iff.1 h.1).1
    have hi2 : i < R.length := by omega
    have he := List.getElem?_eq_getElem hi2
    cases hc : R[i] with
    | none =>
      rw [hc] at he
      have := occ_none he
      rw [ho] at this
      cases this
    | some y =>
      rw [hc] at he
      exact ⟨y.con, by unfold conS; rw [List.getElem?_map, he]; rfl⟩
theorem FreeS.room {R : List (Option ItR)} {n : Nat} (h : FreeS (conS R) n) : R.countP Option.isSome ≠ R.length := by
  intro e
  have h1 := List.countP_eq_length.1 e none (List.mem_of_getElem? (con_none h.1))
  cases h1
theorem set_at {α : Type} {l : List α} {i : Nat} {x : α} (h : l[i]? = some x) : l.set i x = l := by
  apply List.ext_getElem?
  intro j
  by_cases hj : j = i
  · subst hj
    rw [List.getElem?_set_self (List.getElem?_eq_some_iff.1 h).1, h]
  · rw [List.getElem?_set_ne (fun e => hj e.symm)]
section
variable {w0 w w' : World} {O : Nat → Prop} {b i s h : Nat} {R : List (Option ItR)} {C : List Nd} {Ts Th Tr : Nat → Prop}
theorem Mi.mod0 (M : Mi w0 O b i R s h C Ts Th Tr w) (hm : Mod (fun _ => False) w w') : Mi w0 O b i R s h C Ts Th Tr w' :=
  ⟨M.bf.mod0 hm, M.perm, fun j hj => ⟨(M.lt j hj).1, Nat.lt_of_lt_of_le (M.lt j hj).2 hm.size⟩, M.m.then0 hm⟩
theorem Mi.small (M : Mi w0 O b i R s h C Ts Th Tr w) : C.length ≤ 700000 := by
  have h1 := M.perm.length_eq
  have h2 := wtgo_len (i := i) (S := conS R)
  rw [conS_len] at h2
  have := M.bf.sat.len.2
  omega
theorem Mi.ids (M : Mi w0 O b i R s h C Ts Th Tr w) (hi : i < R.length) : ∀ z ∈ C, z.id ≠ idn i := fun z hz => by
  have := M.bf.sat.len.2
  exact wtgo_id (by rw [conS_len]; omega) (M.perm.mem_iff.1 hz) (by rw [conS_len]; exact hi)
theorem bf_more {wx : World} (HB : Bf w b s h R C Ts Th Tr) (hT : ∀ j, Ts j ∨ Th j ∨ Tr j ∨ j = b → (O j ∨ w0.heap.size ≤ j) ∧ j < w.heap.size) (m : Mod O w0 w) (hm : Mod (fun _ => False) w wx) :
    Bf wx b s h R C Ts Th (fun j => Tr j ∨ (w.heap.size ≤ j ∧ j < wx.heap.size)) ∧ (∀ j, Ts j ∨ Th j ∨ (Tr j ∨ (w.heap.size ≤ j ∧ j < wx.heap.size)) ∨ j = b → (O j ∨ w0.heap.size ≤ j) ∧ j < wx.heap.size) := by
  have hsz := hm.size
  have h0 := m.size
  refine ⟨(HB.mod0 hm).more (fun i h => .inl h) (fun i hi e => ?_) (fun i hi e => ?_) (fun hi => ?_), fun j hj => ?_⟩
  · rcases hi with hi | hi
    · exact HB.drs i hi e
    · have := (hT i (.inl e)).2; omega
  · rcases hi with hi | hi
    · exact HB.drh i hi e
    · have := (hT i (.inr (.inl e))).2; omega
  · rcases hi with hi | hi
    · exact HB.db.2.2 hi
    · have := (hT b (.inr (.inr (.inr rfl)))).2; omega
  · rcases hj with hj | hj | (hj | hj) | hj
    · have := hT j (.inl hj); exact ⟨this.1, by omega⟩
    · have := hT j (.inr (.inl hj)); exact ⟨this.1, by omega⟩
    · have := hT j (.inr (.inr (.inl hj))); exact ⟨this.1, by omega⟩
    · exact ⟨.inr (by omega), hj.2⟩
    · have := hT j (.inr (.inr (.inr hj))); exact ⟨this.1, by omega⟩
theorem mi_drop (HB : Bf w b s h R C Ts Th Tr) (hperm : C.Perm (wtg 0 (conS R))) (hT : ∀ j, Ts j ∨ Th j ∨ Tr j ∨ j = b → (O j ∨ w0.heap.size ≤ j) ∧ j < w.heap.size) (m : Mod O w0 w) {y : ItR} (hy : R[i]? = some (some y)) (hp : y.pl = 0) :
    Calls Tryd.prog 31 #[ptrV h, .int .i64 (i : Int)] w fun e w' => e = .returned (.tuple #[.agg (rkc y.rk), .int .i64 0]) ∧ ∃ C1, Mi w0 O b i R s h C1 Ts Th Tr w' ∧ Mod Th w w' := by
  have hlen := HB.sat.len.2
  have hil : i < R.length := (List.getElem?_eq_some_iff.1 hy).1
  have hidn : (idn i).toInt = (i : Int) := idn_toInt (by omega)
  have hx : (conS R)[i]? = some (some y.con) := by unfold conS; rw [List.getElem?_map, hy]; rfl
  have hpl : y.con.pl = 0 := by show y.pl.toNat = 0; rw [hp]; rfl
  have hnm := node_mem hperm hx hpl
  have hC : C.length ≤ 700000 := by
    rw [hperm.length_eq]
    have := wtg_len (S := conS R) (k := 0)
    rw [conS_len] at this
    omega
  have hc := dropH_c HB.hat (fun j hj => (hT j (.inr (.inl hj))).2) (idn i) hC ⟨_, hnm, rfl⟩
  rw [hidn] at hc
  refine hc.mono ?_
  rintro e w' ⟨⟨z, hz, hzi, he⟩, hA, hm⟩
  have hzr : z.r = y.rk := by
    have hnd : (C.map Nd.id).Nodup := HB.hat.ids
    obtain ⟨a, ha⟩ := List.mem_iff_getElem?.1 hz
    obtain ⟨c, hcc⟩ := List.mem_iff_getElem?.1 hnm
    have e1 : (C.map Nd.id)[a]? = some (idn i) := by rw [List.getElem?_map, ha]; simp [hzi]
    have e2 : (C.map Nd.id)[c]? = some (idn i) := by rw [List.getElem?_map, hcc]; rfl
    have := (List.getElem?_inj (List.getElem?_eq_some_iff.1 e1).1 hnd).1 (e1.trans e2.symm)
    subst this
    rw [ha] at hcc
    cases hcc
    rfl
  rw [hzr] at he
  exact ⟨he, _, ⟨HB.stepH (fun j hj => (hT j (by rcases hj with hj | hj | hj; exact .inl hj; exact .inr (.inr (.inl hj)); exact .inr (.inr (.inr hj)))).2) hA hm (fun j hj => .inl hj), drop_perm (by rw [conS_len]; omega) hperm hx hpl, fun j hj => ⟨(hT j hj).1, Nat.lt_of_lt_of_le (hT j hj).2 hm.size⟩, m.then hm (fun j hj e => (hT j (.inr (.inl e))).1.resolve_right (by omega))⟩, hm⟩
theorem mi_free (M : Mi w0 O b i R s h C Ts Th Tr w) {y : ItR} (hy : R[i]? = some (some y)) : Calls Tryd.prog 32 #[ptrV s, .int .i64 (i : Int)] w fun e w' => e = .returned (.int .i64 0) ∧ Mi w0 O b i (R.set i none) s h C Ts Th Tr w' ∧ Mod Ts w w' := by
  refine (sfree_c M.bf.sat hy).mono ?_
  rintro e w' ⟨he, hs, hm⟩
  refine ⟨he, ⟨M.bf.stepS hs hm (fun k y' hy' => ?_), ?_, fun j hj => ⟨(M.lt j hj).1, Nat.lt_of_lt_of_le (M.lt j hj).2 hm.size⟩, M.m.then hm (fun j hj e => (M.lt j (.inl e)).1.resolve_right (by omega))⟩, hm⟩
  · by_cases hk : k = i
    · subst hk
      rw [List.getElem?_set_self (List.getElem?_eq_some_iff.1 hy).1] at hy'
      cases hy'
    · rw [List.getElem?_set_ne (fun e => hk e.symm)] at hy'
      exact .inl hy'
  · rw [con_setN, wtgo_set]
    exact M.perm
theorem mi_put (M : Mi w0 O b i R s h C Ts Th Tr w) (ht : TabW w) (hf : FreeS (conS R) i) {y : ItR} (hok : RdOk w y.r) (hin : RdIn Tr y.r) (hsm : RdSm y.r.con) : Calls Tryd.prog 28 #[ptrV s, .agg (itr y)] w fun e w' => e = .returned (.tuple #[.int .i64 (i : Int), .int .i64 0]) ∧ Mi w0 O b i (R.set i (some y)) s h C Ts Th Tr w' ∧ Mod Ts w w' := by
  refine (sput_c M.bf.sat ht hf.room y).mono ?_
  rintro e w' ⟨n, hn, he, hs, hm⟩
  obtain rfl := hn.s.uniq hf
  refine ⟨he, ⟨M.bf.stepS hs hm (fun k y' hy' => ?_), ?_, fun j hj => ⟨(M.lt j hj).1, Nat.lt_of_lt_of_le (M.lt j hj).2 hm.size⟩, M.m.then hm (fun j hj e => (M.lt j (.inl e)).1.resolve_right (by omega))⟩, hm⟩
  · by_cases hk : k = n
    · subst hk
      rw [List.getElem?_set_self (List.getElem?_eq_some_iff.1 hn.1).1] at hy'
      cases hy'
      exact .inr ⟨hok, hin, hsm⟩
    · rw [List.getElem?_set_ne (fun e => hk e.symm)] at hy'
      exact .inl hy'
  · rw [con_set, wtgo_set]
    exact M.perm
theorem mi_push (M : Mi w0 O b i R s h C Ts Th Tr w) {y : ItR} (hy : R[i]? = some (some y)) (hp : y.pl = 0) : Calls Tryd.prog 33 #[ptrV h, .agg (rkc y.rk), .int .i64 (i : Int)] w fun e w' => e = .returned (.int .i64 0) ∧ (∃ T', BHo w0 O b (conS R) T' w' ∧ ∀ j, T' j → (Ts j ∨ Th j ∨ Tr j ∨ j = b) ∨ w.heap.size ≤ j) ∧ Mod Th w w' := by
  have hlen := M.bf.sat.len.2
  have hil : i < R.length := (List.getElem?_eq_some_iff.1 hy).1
  have hidn : (idn i).toInt = (i : Int) := idn_toInt (by omega)
  have hx : (conS R)[i]? = some (some y.con) := by unfold conS; rw [List.getElem?_map, hy]; rfl
  have hc := pushH_c M.bf.hat (fun j hj => (M.lt j (.inr (.inl hj))).2) y.rk (idn i) M.small (M.ids hil)
  rw [hidn] at hc
  refine hc.mono ?_
  rintro e w' ⟨he, T', hA, hm, hg, hl⟩
  have hpm := push_perm (i := i) (x := y.con) M.perm (by rw [conS_len]; exact hil) (by show y.pl.toNat = 0; rw [hp]; rfl)
  rw [set_at hx] at hpm
  refine ⟨he, ⟨fun j => Ts j ∨ T' j ∨ Tr j ∨ j = b, ⟨s, h, R, C ++ [⟨y.rk, idn i⟩], Ts, T', Tr, M.bf.stepH (fun j hj => (M.lt j (by rcases hj with hj | hj | hj; exact .inl hj; exact .inr (.inr (.inl hj)); exact .inr (.inr (.inr hj)))).2) hA hm (fun j hj => hg j hj), rfl, hpm, fun j => Iff.rfl, fun j hj => ?_, M.m.then hm (fun j hj e => (M.lt j (.inr (.inl e))).1.resolve_right (by omega))⟩, fun j hj => ?_⟩, hm⟩
  rotate_left
  · rcases hj with hj | hj | hj
    · exact .inl (.inl hj)
    · rcases hg j hj with h9 | h9
      · exact .inl (.inr (.inl h9))
      · exact .inr h9
    · exact .inl (.inr (.inr hj))
  have hsz := hm.size
  have h0 := M.m.size
  rcases hj with hj | hj | hj
  · have := M.lt j (.inl hj)
    exact ⟨this.1, by omega⟩
  · refine ⟨?_, hl j hj⟩
    rcases hg j hj with h9 | h9
    · exact (M.lt j (.inr (.inl h9))).1
    · exact .inr (by omega)
  · have := M.lt j (.inr (.inr hj))
    exact ⟨this.1, by omega⟩
end
end Go.Proofs.YtdeghpmlhcaedaaDoor
/- Buffers: Add. -/
namespace Go.Proofs.YtdeghpmlhcaedaaDoor
open Go.RowKit
open Go.ChangeMaps (setBlock)
set_option linter.unusedSimpArgs false
set_option linter.unusedVariables false
theorem zRk_sz : zRk.size = 2 := rfl
attribute [local go_sem ↓] wlItem ldItem stItem wlRdy ldRdy stRdy wlRk ldRk stRk eqRk eqRk2
attribute [local go_sem] cell_blk frozen_blk one_int one_bool one_ptr one_slice one_map Value.cells rkc_size rkc_all1 itr_size itr_all itr_one itr_one' itr_n itr_prio itr_pl itr_sent itr_n' itr_prio' itr_pl' itr_sent' itr_r zItem_size zItem_all zItem_one rdr_size rdr_all rdr_one rdr_one' zRk_sz
theorem itr_congr {n : UInt64} {x z : RdR} {pl : UInt8} {st : Bool} (h : rdr x = rdr z) : itr ⟨n, x, pl, st⟩ = itr ⟨n, z, pl, st⟩ := by
  have h1 := set_r ⟨n, z, pl, st⟩ x
  have h2 := set_r ⟨n, z, pl, st⟩ z
  rw [h] at h1
  exact h1.symm.trans h2
theorem aheadC (a b : Rk) (w : World) : Calls Tryd.prog 14 #[.agg (rkc a), .agg (rkc b)] w fun e w' => ∃ v, e = .returned v ∧ v = .bool (Ahead a b) ∧ Mod (fun _ => False) w w' :=
  (Ahead_c a b w).mono fun e w' h => by
    obtain ⟨h1, q, os, rfl⟩ := h
    exact ⟨_, h1, rfl, grow_mod _ _ _⟩
section
variable {w0 w w' ws : World} {O : Nat → Prop} {b : Nat} {S : List (Option It)}
set_option maxRecDepth 20000 in
set_option maxHeartbeats 6400000 in
theorem addR_c (H : BH w0 O b S w) (h0 : 0 < w0.heap.size ∧ ¬ O 0) (ht : TabW w) {n : Nat} (hn : FreeS S n) {x : RdR} (hx : RdOk w x) (hs : RdSm x.con) (num : UInt64) :
    Calls Tryd.prog 9 #[ptrV b, u64v num, .agg (rdr x)] w fun e w' => e = .returned (.tuple #[.int .i64 (n : Int), .slice none 0 0, .int .i64 0]) ∧ BH w0 O b (S.set n (some ⟨num, x.con, 0, false⟩)) w' := by
  obtain ⟨s, h, R, C, Ts, Th, Tr, HB, rfl, hperm, hT, m⟩ := H
  have kb := HB.kb
  have HH := Lib.hid (And.intro HB (And.intro hperm (And.intro hT (And.intro m (And.intro ht hn)))))
  have HX := Lib.hid (And.intro hx hs)
  clear HB hperm hT m ht hn hx hs
  go_enter Tryd.func9, Tryd.ntmps9
  go_upto_region 0 with fail
  have Lkb := lt_size kb
  refine wp_pass0 (C := fun _ _ _ => False) (κ := fun i => [3, 0, 0, 0].getD i 0) [0, 1, 2, 3] (by kernel_rfl) (by kernel_rfl) (fun _ _ d _ _ h => by cases d <;> first | exact h | exact absurd h (hP _ _ _)) ?_
  (refine TD.box (v := ?v1) (by simp only [zA, zB, zC]; rfl) rfl ?hw1 rfl rfl ?hx1 (fun p5 hp5 => ?hn1); (case hw1 => rfl); (case hx1 => (simp only [Act.eval, zD, zA, zB, zC, zE]; (try rfl))); (try simp only [Act.put, zF, zG, zH]))
  (refine TD.val0 (v := ?v2) (by simp only [zA, zB, zC]; rfl) rfl ?hw2 (fun w1 => ?hy2) ?hn2; (case hw2 => rfl); (case hy2 => (go_simp; (try with_reducible rfl))); (try simp only [Act.put, zF, zG, zH]))
  (refine TD.val0 (v := ?v3) (by simp only [zA, zB, zC]; rfl) rfl ?hw3 (fun w1 => ?hy3) ?hn3; (case hw3 => rfl); (case hy3 => (go_simp; (try with_reducible rfl))); (try simp only [Act.put, zF, zG, zH]))
  (refine TD.val0 (v := ?v4) (by simp only [zA, zB, zC]; rfl) rfl ?hw4 (fun w1 => ?hy4) ?hn4; (case hw4 => rfl); (case hy4 => (go_simp; (try with_reducible rfl))); (try simp only [Act.put, zF, zG, zH]))
  refine TD.nil (fun w1 hr => ?_)
  have kb := hr.mod.at kb (fun h => h)
  have kp5 := hr.box p5 _ (by first | exact Bx.set_same _ _ _ | (simp only [Bx.set_same]; rfl)); dsimp only [Value.cells] at kp5; obtain ⟨gp5, kp5⟩ := kp5
  have m1 := hr.mod
  clear hr
  go_wp2_with fail
  go_at_call 26
  refine (bthere_c kb).mono ?_
  rintro e w2 ⟨rfl, rfl⟩
  go_upto_region 3 with fail
  have Lkb := lt_size kb
  have Lkp5 := lt_size kp5
  refine wp_gpass0 (T0 := fun _ => False) (K := fun _ _ => True) (κ := fun i => [0, 0, 6, 0, 3, 4].getD i 0) (υ := fun i => [[], [], [], [], [], []].getD i []) [0, 1, 2, 3, 4, 5] (by kernel_rfl) (by kernel_rfl) (Good.true).cl (trivial) (fun _ h => h.elim) ?_
  have gK := Good.true
  (refine TG.v0 (v := ?v5) (by simp only [zA, zB, zC]; rfl) rfl ?hw5 (fun w1 => ?hy5) ?hn5; (case hw5 => rfl); (case hy5 => (go_simp; (try with_reducible rfl))); (try simp only [Act.put, zF, zG, zH]))
  (refine TG.load (v := ?v6) (p := ?p6) (by simp only [zA, zB, zC]; rfl) rfl ?hw6 rfl ?hx6 (fun wq hSq => ?hy6) ?hn6; (case hw6 => rfl); (case hx6 => (simp only [Act.eval, zD, zA, zB, zC, zE]; (try rfl))); (case hy6 => (have kbq := hSq.at kb (by intro hT; first | exact hT | exact absurd hT (by assumption) | omega | (simp only at hT; omega)); have kp5q := hSq.at kp5 (by intro hT; first | exact hT | exact absurd hT (by assumption) | omega | (simp only at hT; omega)); go_simp; (try with_reducible rfl))); (try simp only [Act.put, zF, zG, zH]))
  (refine TG.callM (f := ?f7) (args := ?r7) (RdL w.heap.size x.con) (goodRd w.heap.size x.con) gK (by simp only [zA, zB, zC]; rfl) rfl ?hw7 (fun w1 => ?hy7) (fun T wq kq ltq hSq ub => ?hsp7) ?hn7; (case hw7 => rfl); (case hy7 => (go_simp; (first | with_reducible rfl | (constructor <;> with_reducible rfl)))); (case hsp7 => (have kbq := hSq.at kb (by intro hT; first | exact hT | exact absurd hT (by assumption) | omega | (simp only at hT; omega)); have kp5q := hSq.at kp5 (by intro hT; first | exact hT | exact absurd hT (by assumption) | omega | (simp only at hT; omega)); exact freshL (x := x) w.heap.size (m1.then0 hSq).size T (HX.out.1.mod0 (m1.then0 hSq)) HX.out.2)); rintro v7 ⟨wI, TI, hI⟩; replace gK := gK.and ((goodRd w.heap.size x.con) v7); (obtain ⟨_, z0, rfl, _⟩ := hI.k); (try clear hI TI wI); (try simp only [Act.put, zF, zG, zH]))
  (refine TG.build (v := ?v8) (ps := ?p8) (by simp only [zA, zB, zC]; rfl) rfl ?hw8 rfl ?hx8 (fun w1 => ?hy8) ?hn8; (case hw8 => rfl); (case hx8 => (simp only [List.map_toArray, List.map_cons, List.map_nil, Act.eval, zD, zA, zB, zC, zE]; (try rfl))); (case hy8 => (rw [(bldItem num z0)]; (try with_reducible rfl))); (try simp only [Act.put, zF, zG, zH]))
  (refine TG.allocB (by simp only [zA, zB, zC]; rfl) rfl ?hw9 rfl rfl alItem (fun p9 hp9 _ => ?hn9); (case hw9 => rfl); (try simp only [Act.put, zF, zG, zH]))
  (refine TG.storeB (d := ?d10) (T := ?T10) (y := ?y10) (p := ?p10) (b := ?b10) (v := ?v10) (by simp only [zA, zB, zC]; rfl) rfl ?hw10 ?hd10 ?hop10 ?hev10 ?hx10 ?hb10 ?htag10 (fun w1 hb1 => ?hy10) ?hn10; (case hw10 => rfl); (case hd10 => rfl); (case hop10 => rfl); (case hev10 => (simp only [Act.eval, zD, zA, zB, zC, zE]; (try rfl))); (case hx10 => (simp only [Act.eval, zD, zA, zB, zC, zE]; (try rfl))); (case hb10 => first | exact Bx.set_same _ _ _ | (simp only [Bx.set_same]; rfl)); (case htag10 => rfl); (case hy10 => (go_simp; (try first | with_reducible rfl | (rw [setCell_blk hb1]; rfl)))); (try simp only [Act.put, zF, zG, zH]))
  refine TG.nil (fun w3 ⟨TR, hr⟩ => ?_)
  have kb := hr.mod.at kb (by intro hT; first | exact hT | exact absurd hT (by assumption) | omega | (simp only at hT; omega))
  have kp5 := hr.mod.at kp5 (by intro hT; first | exact hT | exact absurd hT (by assumption) | omega | (simp only at hT; omega))
  have kp9 := hr.box p9 _ (by first | exact Bx.set_same _ _ _ | (simp only [Bx.set_same]; rfl)); dsimp only [Value.cells] at kp9; obtain ⟨gp9, nTp9, kp9⟩ := kp9
  clear gK
  obtain ⟨_, z, hz, hzc, hzn, hzi⟩ := hr.k
  injection hz with hz
  rw [itr_congr hz] at kp9
  have m3 := m1.then0 hr.mod
  obtain ⟨y, hy⟩ : ∃ y : ItR, y = ⟨num, z, 0, false⟩ := ⟨_, rfl⟩
  rw [← hy] at kp9
  have gq9 : w.heap.size ≤ p9 := Nat.le_trans m1.size gp9
  have HZ := Lib.hid (And.intro hy (And.intro hzc (And.intro hzn (And.intro hz m3))))
  clear hr hzc hzn hzi hz hy kp5
  have hMb := bf_more (O := O) HH.out.1 HH.out.2.2.1 HH.out.2.2.2.1 m3
  have hM : Mi w0 O b n R s h C Ts Th (fun j => Tr j ∨ (w.heap.size ≤ j ∧ j < w3.heap.size)) w3 := ⟨hMb.1, (node_none (by rw [conS_len]; have := HH.out.1.sat.len; omega) HH.out.2.1 HH.out.2.2.2.2.2.1 rfl).2, hMb.2, HH.out.2.2.2.1.then0 m3⟩
  have hs9 : ¬ Ts p9 := fun e => by have := (HH.out.2.2.1 p9 (.inl e)).2; omega
  have HM := Lib.hid (And.intro hM hs9)
  clear hM hMb hs9 m3
  go_upto_region 4 with fail
  have Lkb := lt_size kb
  have Lkp9 := lt_size kp9
  refine wp_pass (C := fun _ _ _ => False) (κ := fun i => [0, 0, 0, 0, 1, 1, 5, 0, 0, 0, 0, 0].getD i 0) [0, 1, 2, 3, 4, 5, 6, 7, 8, 9, 10, 11] (by kernel_rfl) (by kernel_rfl) (fun _ _ d _ _ h => by cases d <;> first | exact h | exact absurd h (hP _ _ _)) ?_
  (refine TD.val0 (v := ?v11) (by simp only [zA, zB, zC]; rfl) rfl ?hw11 (fun w1 => ?hy11) ?hn11; (case hw11 => rfl); (case hy11 => (go_simp; (try with_reducible rfl))); (try simp only [Act.put, zF, zG, zH]))
  (refine TD.val0 (v := ?v12) (by simp only [zA, zB, zC]; rfl) rfl ?hw12 (fun w1 => ?hy12) ?hn12; (case hw12 => rfl); (case hy12 => (go_simp; (try with_reducible rfl))); (try simp only [Act.put, zF, zG, zH]))
  (refine TD.val0 (v := ?v13) (by simp only [zA, zB, zC]; rfl) rfl ?hw13 (fun w1 => ?hy13) ?hn13; (case hw13 => rfl); (case hy13 => (go_simp; (try with_reducible rfl))); (try simp only [Act.put, zF, zG, zH]))
  (refine TD.val0 (v := ?v14) (by simp only [zA, zB, zC]; rfl) rfl ?hw14 (fun w1 => ?hy14) ?hn14; (case hw14 => rfl); (case hy14 => (go_simp; (try with_reducible rfl))); (try simp only [Act.put, zF, zG, zH]))
  (refine TD.load (v := ?v15) (p := ?p15) (Mod.refl _ _) (by simp only [zA, zB, zC]; rfl) rfl ?hw15 rfl ?hx15 (fun wq hSq => ?hy15) ?hn15; (case hw15 => rfl); (case hx15 => (simp only [Act.eval, zD, zA, zB, zC, zE]; (try rfl))); (case hy15 => (have kbq := hSq.at kb (fun h => h); have kp9q := hSq.at kp9 (fun h => h); go_simp; (try with_reducible rfl))); (try simp only [Act.put, zF, zG, zH]))
  (refine TD.load (v := ?v16) (p := ?p16) (Mod.refl _ _) (by simp only [zA, zB, zC]; rfl) rfl ?hw16 rfl ?hx16 (fun wq hSq => ?hy16) ?hn16; (case hw16 => rfl); (case hx16 => (simp only [Act.eval, zD, zA, zB, zC, zE]; (try rfl))); (case hy16 => (have kbq := hSq.at kb (fun h => h); have kp9q := hSq.at kp9 (fun h => h); go_simp; (try with_reducible rfl))); (try simp only [Act.put, zF, zG, zH]))
  refine TD.eff (by simp only [zA, zB, zC]; rfl) rfl (fun w4 hr => ?_)
  have kb := hr.mod.at kb (fun h => h)
  have kp9 := hr.mod.at kp9 (fun h => h)
  have m4 := hr.mod
  clear hr
  have hcall := mi_put (y := y) (HM.out.1.mod0 m4) (HH.out.2.2.2.2.1.mod0 (HZ.out.2.2.2.2.then0 m4)) HH.out.2.2.2.2.2 (by rw [HZ.out.1]; exact (HZ.out.2.2.1.mod0 m4).ok) (by rw [HZ.out.1]; exact HZ.out.2.2.1.inn.mono (fun i hi => .inr hi)) (by rw [HZ.out.1]; show RdSm z.con; rw [HZ.out.2.1]; exact HX.out.2)
  (refine eff_callP (by simp only [zA, zB, zC]; rfl) ?hw18 ?hy18 hcall (fun wn hP => ?hn18); (case hw18 => rfl); (case hy18 => (go_simp; (try (first | with_reducible rfl | (constructor <;> with_reducible rfl))))); (try simp only [Act.put, zF, zG, zH]))
  (refine TE.val0 (v := ?v19) (by simp only [zA, zB, zC]; rfl) ?hw19 (fun w1 => ?hy19) ?hn19; (case hw19 => rfl); (case hy19 => (go_simp; (try with_reducible rfl))); (try simp only [Act.put, zF, zG, zH]))
  (refine TE.val0 (v := ?v20) (by simp only [zA, zB, zC]; rfl) ?hw20 (fun w1 => ?hy20) ?hn20; (case hw20 => rfl); (case hy20 => (go_simp; (try with_reducible rfl))); (try simp only [Act.put, zF, zG, zH]))
  (refine TE.val0 (v := ?v21) (by simp only [zA, zB, zC]; rfl) ?hw21 (fun w1 => ?hy21) ?hn21; (case hw21 => rfl); (case hy21 => (go_simp; (try with_reducible rfl))); (try simp only [Act.put, zF, zG, zH]))
  (refine TE.val0 (v := ?v22) (by simp only [zA, zB, zC]; rfl) ?hw22 (fun w1 => ?hy22) ?hn22; (case hw22 => rfl); (case hy22 => (go_simp; (try with_reducible rfl))); (try simp only [Act.put, zF, zG, zH]))
  (refine TE.val0 (v := ?v23) (by simp only [zA, zB, zC]; rfl) ?hw23 (fun w1 => ?hy23) ?hn23; (case hw23 => rfl); (case hy23 => (go_simp; (try with_reducible rfl))); (try simp only [Act.put, zF, zG, zH]))
  refine TE.nil ?_
  obtain ⟨hM5, m5⟩ := hP
  have kb := hM5.bf.kb
  have kp9 := m5.at kp9 HM.out.2
  have HM5 := Lib.hid (And.intro hM5 m5)
  clear hcall hM5 m5
  go_upto_region 13 with fail
  have Lkb := lt_size kb
  have Lkp9 := lt_size kp9
  refine wp_pass (C := fun _ _ v => v = .agg (rkc y.rk)) (κ := fun i => [0, 0, 0, 0, 1, 1, 2, 0, 5].getD i 0) [0, 1, 2, 3, 4, 5, 6, 7, 8] (by kernel_rfl) (by kernel_rfl) (fun _ _ d _ _ h => by cases d <;> first | exact h | exact absurd h (hP _ _ _)) ?_
  (refine TD.val0 (v := ?v24) (by simp only [zA, zB, zC]; rfl) rfl ?hw24 (fun w1 => ?hy24) ?hn24; (case hw24 => rfl); (case hy24 => (go_simp; (try with_reducible rfl))); (try simp only [Act.put, zF, zG, zH]))
  (refine TD.val0 (v := ?v25) (by simp only [zA, zB, zC]; rfl) rfl ?hw25 (fun w1 => ?hy25) ?hn25; (case hw25 => rfl); (case hy25 => (go_simp; (try with_reducible rfl))); (try simp only [Act.put, zF, zG, zH]))
  (refine TD.val0 (v := ?v26) (by simp only [zA, zB, zC]; rfl) rfl ?hw26 (fun w1 => ?hy26) ?hn26; (case hw26 => rfl); (case hy26 => (go_simp; (try with_reducible rfl))); (try simp only [Act.put, zF, zG, zH]))
  (refine TD.val0 (v := ?v27) (by simp only [zA, zB, zC]; rfl) rfl ?hw27 (fun w1 => ?hy27) ?hn27; (case hw27 => rfl); (case hy27 => (go_simp; (try with_reducible rfl))); (try simp only [Act.put, zF, zG, zH]))
  (refine TD.load (v := ?v28) (p := ?p28) (Mod.refl _ _) (by simp only [zA, zB, zC]; rfl) rfl ?hw28 rfl ?hx28 (fun wq hSq => ?hy28) ?hn28; (case hw28 => rfl); (case hx28 => (simp only [Act.eval, zD, zA, zB, zC, zE]; (try rfl))); (case hy28 => (have kbq := hSq.at kb (fun h => h); have kp9q := hSq.at kp9 (fun h => h); go_simp; (try with_reducible rfl))); (try simp only [Act.put, zF, zG, zH]))
  (refine TD.load (v := ?v29) (p := ?p29) (Mod.refl _ _) (by simp only [zA, zB, zC]; rfl) rfl ?hw29 rfl ?hx29 (fun wq hSq => ?hy29) ?hn29; (case hw29 => rfl); (case hx29 => (simp only [Act.eval, zD, zA, zB, zC, zE]; (try rfl))); (case hy29 => (have kbq := hSq.at kb (fun h => h); have kp9q := hSq.at kp9 (fun h => h); go_simp; (try with_reducible rfl))); (try simp only [Act.put, zF, zG, zH]))
  (refine TD.call (f := ?f30) (args := ?r30) (Mod.refl _ _) (by simp only [zA, zB, zC]; rfl) rfl ?hw30 (fun w1 => ?hy30) ?hsp30 ?hn30; (case hw30 => rfl); (case hy30 => (go_simp; (first | with_reducible rfl | (constructor <;> with_reducible rfl)))); (case hsp30 => (intro wq hSq; have kbq := hSq.at kb (fun h => h); have kp9q := hSq.at kp9 (fun h => h); exact (irank_c y wq).mono (fun e w' h => ⟨_, h.1, rfl, h.2⟩))); rintro _ rfl; (try simp only [Act.put, zF, zG, zH]))
  (refine TD.val0 (v := ?v31) (by simp only [zA, zB, zC]; rfl) rfl ?hw31 (fun w1 => ?hy31) ?hn31; (case hw31 => rfl); (case hy31 => (go_simp; (try with_reducible rfl))); (try simp only [Act.put, zF, zG, zH]))
  refine TD.eff (by simp only [zA, zB, zC]; rfl) rfl (fun w6 hr => ?_)
  have kb := hr.mod.at kb (fun h => h)
  have kp9 := hr.mod.at kp9 (fun h => h)
  have m6 := hr.mod
  clear hr
  have hpush := mi_push (y := y) (HM5.out.1.mod0 m6) (List.getElem?_set_self (by have := (List.getElem?_eq_some_iff.1 HH.out.2.2.2.2.2.1).1; rw [conS_len] at this; exact this)) (by rw [HZ.out.1])
  have hE : conS (R.set n (some y)) = (conS R).set n (some ⟨num, x.con, 0, false⟩) := by
    rw [con_set, HZ.out.1, ← HZ.out.2.1]
    rfl
  rw [hE] at hpush
  (refine eff_callP (by simp only [zA, zB, zC]; rfl) ?hw33 ?hy33 hpush (fun wn hP => ?hn33); (case hw33 => rfl); (case hy33 => (go_simp; (try (first | with_reducible rfl | (constructor <;> with_reducible rfl))))); (try simp only [Act.put, zF, zG, zH]))
  refine TE.nil ?_
  have HF := Lib.hid hP
  clear hP hpush hE
  go_wp2_with fail
  exact bodyPost_ret (results_tmp3 rfl _ _ _) rfl ⟨rfl, by obtain ⟨T', h, _⟩ := HF.out.1; exact h.bh⟩
theorem con_count {R : List (Option ItR)} : (conS R).countP Option.isSome = R.countP Option.isSome := by
  unfold conS
  rw [List.countP_map]
  exact List.countP_congr (fun o _ => by cases o <;> simp)
set_option maxRecDepth 20000 in
set_option maxHeartbeats 6400000 in
theorem addN_c (H : BH w0 O b S w) (hf : S.countP Option.isSome = S.length) (hD : wtg 0 S = []) {x : RdR} (hx : RdOk w x) (hs : RdSm x.con) (num : UInt64) :
    Calls Tryd.prog 9 #[ptrV b, u64v num, .agg (rdr x)] w fun e w' => e = .returned (.tuple #[.int .i64 0, .slice none 0 0, .int .i64 3]) ∧ Mod (fun _ => False) w w' := by
  obtain ⟨s, h, R, C, Ts, Th, Tr, HB, rfl, hperm, hT, m⟩ := H
  have kb := HB.kb
  rw [con_count, conS_len] at hf
  have hbot : ∀ wq, Mod (fun _ => False) w wq → Calls Tryd.prog 29 #[ptrV h] wq fun e w' => e = .returned (.tuple #[.agg (rkc rk0), .int .i64 0, .bool false]) ∧ Mod (fun _ => False) wq w' := fun wq hq => botS_c (HB.mod0 hq).hat (D := []) (by rw [← hD]; exact hperm.symm) .nil
  have HBT := Lib.hid hbot
  have HH := Lib.hid (And.intro HB (And.intro hperm (And.intro hT (And.intro m (And.intro hf (And.intro hf hf))))))
  have HX := Lib.hid (And.intro hx hs)
  clear HB hperm hT m hx hs hf hD hbot
  go_enter Tryd.func9, Tryd.ntmps9
  go_upto_region 0 with fail
  have Lkb := lt_size kb
  refine wp_pass0 (C := fun _ _ _ => False) (κ := fun i => [3, 0, 0, 0].getD i 0) [0, 1, 2, 3] (by kernel_rfl) (by kernel_rfl) (fun _ _ d _ _ h => by cases d <;> first | exact h | exact absurd h (hP _ _ _)) ?_
  (refine TD.box (v := ?v34) (by simp only [zA, zB, zC]; rfl) rfl ?hw34 rfl rfl ?hx34 (fun p5 hp5 => ?hn34); (case hw34 => rfl); (case hx34 => (simp only [Act.eval, zD, zA, zB, zC, zE]; (try rfl))); (try simp only [Act.put, zF, zG, zH]))
  (refine TD.val0 (v := ?v35) (by simp only [zA, zB, zC]; rfl) rfl ?hw35 (fun w1 => ?hy35) ?hn35; (case hw35 => rfl); (case hy35 => (go_simp; (try with_reducible rfl))); (try simp only [Act.put, zF, zG, zH]))
  (refine TD.val0 (v := ?v36) (by simp only [zA, zB, zC]; rfl) rfl ?hw36 (fun w1 => ?hy36) ?hn36; (case hw36 => rfl); (case hy36 => (go_simp; (try with_reducible rfl))); (try simp only [Act.put, zF, zG, zH]))
  (refine TD.val0 (v := ?v37) (by simp only [zA, zB, zC]; rfl) rfl ?hw37 (fun w1 => ?hy37) ?hn37; (case hw37 => rfl); (case hy37 => (go_simp; (try with_reducible rfl))); (try simp only [Act.put, zF, zG, zH]))
  refine TD.nil (fun w1 hr => ?_)
  have kb := hr.mod.at kb (fun h => h)
  have kp5 := hr.box p5 _ (by first | exact Bx.set_same _ _ _ | (simp only [Bx.set_same]; rfl)); dsimp only [Value.cells] at kp5; obtain ⟨gp5, kp5⟩ := kp5
  have m1 := hr.mod
  clear hr
  go_wp2_with fail
  go_at_call 26
  refine (bthere_c kb).mono ?_
  rintro e w2 ⟨rfl, rfl⟩
  go_upto_region 3 with fail
  have Lkb := lt_size kb
  have Lkp5 := lt_size kp5
  refine wp_gpass0 (T0 := fun _ => False) (K := fun _ _ => True) (κ := fun i => [0, 0, 6, 0, 3, 4].getD i 0) (υ := fun i => [[], [], [], [], [], []].getD i []) [0, 1, 2, 3, 4, 5] (by kernel_rfl) (by kernel_rfl) (Good.true).cl (trivial) (fun _ h => h.elim) ?_
  have gK := Good.true
  (refine TG.v0 (v := ?v38) (by simp only [zA, zB, zC]; rfl) rfl ?hw38 (fun w1 => ?hy38) ?hn38; (case hw38 => rfl); (case hy38 => (go_simp; (try with_reducible rfl))); (try simp only [Act.put, zF, zG, zH]))
  (refine TG.load (v := ?v39) (p := ?p39) (by simp only [zA, zB, zC]; rfl) rfl ?hw39 rfl ?hx39 (fun wq hSq => ?hy39) ?hn39; (case hw39 => rfl); (case hx39 => (simp only [Act.eval, zD, zA, zB, zC, zE]; (try rfl))); (case hy39 => (have kbq := hSq.at kb (by intro hT; first | exact hT | exact absurd hT (by assumption) | omega | (simp only at hT; omega)); have kp5q := hSq.at kp5 (by intro hT; first | exact hT | exact absurd hT (by assumption) | omega | (simp only at hT; omega)); go_simp; (try with_reducible rfl))); (try simp only [Act.put, zF, zG, zH]))
  (refine TG.callM (f := ?f40) (args := ?r40) (RdL w.heap.size x.con) (goodRd w.heap.size x.con) gK (by simp only [zA, zB, zC]; rfl) rfl ?hw40 (fun w1 => ?hy40) (fun T wq kq ltq hSq ub => ?hsp40) ?hn40; (case hw40 => rfl); (case hy40 => (go_simp; (first | with_reducible rfl | (constructor <;> with_reducible rfl)))); (case hsp40 => (have kbq := hSq.at kb (by intro hT; first | exact hT | exact absurd hT (by assumption) | omega | (simp only at hT; omega)); have kp5q := hSq.at kp5 (by intro hT; first | exact hT | exact absurd hT (by assumption) | omega | (simp only at hT; omega)); exact freshL (x := x) w.heap.size (m1.then0 hSq).size T (HX.out.1.mod0 (m1.then0 hSq)) HX.out.2)); rintro v40 ⟨wI, TI, hI⟩; replace gK := gK.and ((goodRd w.heap.size x.con) v40); (obtain ⟨_, z0, rfl, _⟩ := hI.k); (try clear hI TI wI); (try simp only [Act.put, zF, zG, zH]))
  (refine TG.build (v := ?v41) (ps := ?p41) (by simp only [zA, zB, zC]; rfl) rfl ?hw41 rfl ?hx41 (fun w1 => ?hy41) ?hn41; (case hw41 => rfl); (case hx41 => (simp only [List.map_toArray, List.map_cons, List.map_nil, Act.eval, zD, zA, zB, zC, zE]; (try rfl))); (case hy41 => (rw [(bldItem num z0)]; (try with_reducible rfl))); (try simp only [Act.put, zF, zG, zH]))
  (refine TG.allocB (by simp only [zA, zB, zC]; rfl) rfl ?hw42 rfl rfl alItem (fun p9 hp9 _ => ?hn42); (case hw42 => rfl); (try simp only [Act.put, zF, zG, zH]))
  (refine TG.storeB (d := ?d43) (T := ?T43) (y := ?y43) (p := ?p43) (b := ?b43) (v := ?v43) (by simp only [zA, zB, zC]; rfl) rfl ?hw43 ?hd43 ?hop43 ?hev43 ?hx43 ?hb43 ?htag43 (fun w1 hb1 => ?hy43) ?hn43; (case hw43 => rfl); (case hd43 => rfl); (case hop43 => rfl); (case hev43 => (simp only [Act.eval, zD, zA, zB, zC, zE]; (try rfl))); (case hx43 => (simp only [Act.eval, zD, zA, zB, zC, zE]; (try rfl))); (case hb43 => first | exact Bx.set_same _ _ _ | (simp only [Bx.set_same]; rfl)); (case htag43 => rfl); (case hy43 => (go_simp; (try first | with_reducible rfl | (rw [setCell_blk hb1]; rfl)))); (try simp only [Act.put, zF, zG, zH]))
  refine TG.nil (fun w3 ⟨TR, hr⟩ => ?_)
  have kb := hr.mod.at kb (by intro hT; first | exact hT | exact absurd hT (by assumption) | omega | (simp only at hT; omega))
  have kp5 := hr.mod.at kp5 (by intro hT; first | exact hT | exact absurd hT (by assumption) | omega | (simp only at hT; omega))
  have kp9 := hr.box p9 _ (by first | exact Bx.set_same _ _ _ | (simp only [Bx.set_same]; rfl)); dsimp only [Value.cells] at kp9; obtain ⟨gp9, nTp9, kp9⟩ := kp9
  clear gK
  obtain ⟨_, z, hz, hzc, hzn, hzi⟩ := hr.k
  injection hz with hz
  rw [itr_congr hz] at kp9
  have m3 := m1.then0 hr.mod
  obtain ⟨y, hy⟩ : ∃ y : ItR, y = ⟨num, z, 0, false⟩ := ⟨_, rfl⟩
  rw [← hy] at kp9
  have gq9 : w.heap.size ≤ p9 := Nat.le_trans m1.size gp9
  have HZ := Lib.hid (And.intro hy (And.intro hzc (And.intro hzn (And.intro hz m3))))
  clear hr hzc hzn hzi hz hy kp5
  have HB3 := Lib.hid (HH.out.1.mod0 HZ.out.2.2.2.2)
  go_upto_region 4 with fail
  have Lkb := lt_size kb
  have Lkp9 := lt_size kp9
  refine wp_pass (C := fun _ _ v => v = .tuple #[.int .i64 0, .int .i64 3]) (κ := fun i => [0, 0, 0, 0, 1, 1, 2, 0, 0, 0, 0, 0].getD i 0) [0, 1, 2, 3, 4, 5, 6, 7, 8, 9, 10, 11] (by kernel_rfl) (by kernel_rfl) (fun _ _ d _ _ h => by cases d <;> first | exact h | exact absurd h (hP _ _ _)) ?_
  (refine TD.val0 (v := ?v44) (by simp only [zA, zB, zC]; rfl) rfl ?hw44 (fun w1 => ?hy44) ?hn44; (case hw44 => rfl); (case hy44 => (go_simp; (try with_reducible rfl))); (try simp only [Act.put, zF, zG, zH]))
  (refine TD.val0 (v := ?v45) (by simp only [zA, zB, zC]; rfl) rfl ?hw45 (fun w1 => ?hy45) ?hn45; (case hw45 => rfl); (case hy45 => (go_simp; (try with_reducible rfl))); (try simp only [Act.put, zF, zG, zH]))
  (refine TD.val0 (v := ?v46) (by simp only [zA, zB, zC]; rfl) rfl ?hw46 (fun w1 => ?hy46) ?hn46; (case hw46 => rfl); (case hy46 => (go_simp; (try with_reducible rfl))); (try simp only [Act.put, zF, zG, zH]))
  (refine TD.val0 (v := ?v47) (by simp only [zA, zB, zC]; rfl) rfl ?hw47 (fun w1 => ?hy47) ?hn47; (case hw47 => rfl); (case hy47 => (go_simp; (try with_reducible rfl))); (try simp only [Act.put, zF, zG, zH]))
  (refine TD.load (v := ?v48) (p := ?p48) (Mod.refl _ _) (by simp only [zA, zB, zC]; rfl) rfl ?hw48 rfl ?hx48 (fun wq hSq => ?hy48) ?hn48; (case hw48 => rfl); (case hx48 => (simp only [Act.eval, zD, zA, zB, zC, zE]; (try rfl))); (case hy48 => (have kbq := hSq.at kb (fun h => h); have kp9q := hSq.at kp9 (fun h => h); go_simp; (try with_reducible rfl))); (try simp only [Act.put, zF, zG, zH]))
  (refine TD.load (v := ?v49) (p := ?p49) (Mod.refl _ _) (by simp only [zA, zB, zC]; rfl) rfl ?hw49 rfl ?hx49 (fun wq hSq => ?hy49) ?hn49; (case hw49 => rfl); (case hx49 => (simp only [Act.eval, zD, zA, zB, zC, zE]; (try rfl))); (case hy49 => (have kbq := hSq.at kb (fun h => h); have kp9q := hSq.at kp9 (fun h => h); go_simp; (try with_reducible rfl))); (try simp only [Act.put, zF, zG, zH]))
  (refine TD.call (f := ?f50) (args := ?r50) (Mod.refl _ _) (by simp only [zA, zB, zC]; rfl) rfl ?hw50 (fun w1 => ?hy50) ?hsp50 ?hn50; (case hw50 => rfl); (case hy50 => (go_simp; (first | with_reducible rfl | (constructor <;> with_reducible rfl)))); (case hsp50 => (intro wq hSq; have kbq := hSq.at kb (fun h => h); have kp9q := hSq.at kp9 (fun h => h); exact (sputN_c (HB3.out.mod0 hSq).sat HH.out.2.2.2.2.2.1 y).mono (fun e w' h => ⟨_, h.1, rfl, h.2⟩))); rintro _ rfl; (try simp only [Act.put, zF, zG, zH]))
  (refine TD.val0 (v := ?v51) (by simp only [zA, zB, zC]; rfl) rfl ?hw51 (fun w1 => ?hy51) ?hn51; (case hw51 => rfl); (case hy51 => (go_simp; (try with_reducible rfl))); (try simp only [Act.put, zF, zG, zH]))
  (refine TD.val0 (v := ?v52) (by simp only [zA, zB, zC]; rfl) rfl ?hw52 (fun w1 => ?hy52) ?hn52; (case hw52 => rfl); (case hy52 => (go_simp; (try with_reducible rfl))); (try simp only [Act.put, zF, zG, zH]))
  (refine TD.val0 (v := ?v53) (by simp only [zA, zB, zC]; rfl) rfl ?hw53 (fun w1 => ?hy53) ?hn53; (case hw53 => rfl); (case hy53 => (go_simp; (try with_reducible rfl))); (try simp only [Act.put, zF, zG, zH]))
  (refine TD.val0 (v := ?v54) (by simp only [zA, zB, zC]; rfl) rfl ?hw54 (fun w1 => ?hy54) ?hn54; (case hw54 => rfl); (case hy54 => (go_simp; (try with_reducible rfl))); (try simp only [Act.put, zF, zG, zH]))
  (refine TD.val0 (v := ?v55) (by simp only [zA, zB, zC]; rfl) rfl ?hw55 (fun w1 => ?hy55) ?hn55; (case hw55 => rfl); (case hy55 => (go_simp; (try with_reducible rfl))); (try simp only [Act.put, zF, zG, zH]))
  refine TD.nil (fun w4 hr => ?_)
  have kb := hr.mod.at kb (fun h => h)
  have kp9 := hr.mod.at kp9 (fun h => h)
  have m4 := m3.then0 hr.mod
  have n4 := hr.mod
  clear hr
  go_upto_region 6 with fail
  have Lkb := lt_size kb
  have Lkp9 := lt_size kp9
  refine wp_pass0 (C := fun _ _ v => v = .tuple #[.agg (rkc rk0), .int .i64 0, .bool false]) (κ := fun i => [0, 0, 0, 0, 1, 2, 0, 0, 0, 0, 3, 4, 0, 0].getD i 0) [0, 1, 2, 3, 4, 5, 6, 7, 8, 9, 10, 11, 12, 13] (by kernel_rfl) (by kernel_rfl) (fun _ _ d _ _ h => by cases d <;> first | exact h | exact absurd h (hP _ _ _)) ?_
  (refine TD.val0 (v := ?v56) (by simp only [zA, zB, zC]; rfl) rfl ?hw56 (fun w1 => ?hy56) ?hn56; (case hw56 => rfl); (case hy56 => (go_simp; (try with_reducible rfl))); (try simp only [Act.put, zF, zG, zH]))
  (refine TD.val0 (v := ?v57) (by simp only [zA, zB, zC]; rfl) rfl ?hw57 (fun w1 => ?hy57) ?hn57; (case hw57 => rfl); (case hy57 => (go_simp; (try with_reducible rfl))); (try simp only [Act.put, zF, zG, zH]))
  (refine TD.val0 (v := ?v58) (by simp only [zA, zB, zC]; rfl) rfl ?hw58 (fun w1 => ?hy58) ?hn58; (case hw58 => rfl); (case hy58 => (go_simp; (try with_reducible rfl))); (try simp only [Act.put, zF, zG, zH]))
  (refine TD.val0 (v := ?v59) (by simp only [zA, zB, zC]; rfl) rfl ?hw59 (fun w1 => ?hy59) ?hn59; (case hw59 => rfl); (case hy59 => (go_simp; (try with_reducible rfl))); (try simp only [Act.put, zF, zG, zH]))
  (refine TD.load (v := ?v60) (p := ?p60) (Mod.refl _ _) (by simp only [zA, zB, zC]; rfl) rfl ?hw60 rfl ?hx60 (fun wq hSq => ?hy60) ?hn60; (case hw60 => rfl); (case hx60 => (simp only [Act.eval, zD, zA, zB, zC, zE]; (try rfl))); (case hy60 => (have kbq := hSq.at kb (fun h => h); have kp9q := hSq.at kp9 (fun h => h); go_simp; (try with_reducible rfl))); (try simp only [Act.put, zF, zG, zH]))
  (refine TD.call (f := ?f61) (args := ?r61) (Mod.refl _ _) (by simp only [zA, zB, zC]; rfl) rfl ?hw61 (fun w1 => ?hy61) ?hsp61 ?hn61; (case hw61 => rfl); (case hy61 => (go_simp; (first | with_reducible rfl | (constructor <;> with_reducible rfl)))); (case hsp61 => (intro wq hSq; have kbq := hSq.at kb (fun h => h); have kp9q := hSq.at kp9 (fun h => h); exact (HBT.out wq (m4.then0 hSq)).mono (fun e w' h => ⟨_, h.1, rfl, h.2⟩))); rintro _ rfl; (try simp only [Act.put, zF, zG, zH]))
  (refine TD.val0 (v := ?v62) (by simp only [zA, zB, zC]; rfl) rfl ?hw62 (fun w1 => ?hy62) ?hn62; (case hw62 => rfl); (case hy62 => (go_simp; (try with_reducible rfl))); (try simp only [Act.put, zF, zG, zH]))
  (refine TD.val0 (v := ?v63) (by simp only [zA, zB, zC]; rfl) rfl ?hw63 (fun w1 => ?hy63) ?hn63; (case hw63 => rfl); (case hy63 => (go_simp; (try with_reducible rfl))); (try simp only [Act.put, zF, zG, zH]))
  (refine TD.val0 (v := ?v64) (by simp only [zA, zB, zC]; rfl) rfl ?hw64 (fun w1 => ?hy64) ?hn64; (case hw64 => rfl); (case hy64 => (go_simp; (try with_reducible rfl))); (try simp only [Act.put, zF, zG, zH]))
  (refine TD.val0 (v := ?v65) (by simp only [zA, zB, zC]; rfl) rfl ?hw65 (fun w1 => ?hy65) ?hn65; (case hw65 => rfl); (case hy65 => (go_simp; (try with_reducible rfl))); (try simp only [Act.put, zF, zG, zH]))
  (refine TD.allocB (by simp only [zA, zB, zC]; rfl) rfl ?hw66 rfl rfl alRk (fun p10 hp10 => ?hn66); (case hw66 => rfl); (try simp only [Act.put, zF, zG, zH]))
  (refine TD.storeB (d := ?d67) (T := ?T67) (y := ?y67) (p := ?p67) (b := ?b67) (v := ?v67) (by simp only [zA, zB, zC]; rfl) rfl ?hw67 ?hd67 ?hop67 ?hev67 ?hx67 ?hb67 ?htag67 (fun w1 hb1 => ?hy67) ?hn67; (case hw67 => rfl); (case hd67 => rfl); (case hop67 => rfl); (case hev67 => (simp only [Act.eval, zD, zA, zB, zC, zE]; (try rfl))); (case hx67 => (simp only [Act.eval, zD, zA, zB, zC, zE]; (try rfl))); (case hb67 => first | exact Bx.set_same _ _ _ | (simp only [Bx.set_same]; rfl)); (case hy67 => (go_simp; (try first | with_reducible rfl | (rw [setCell_blk hb1]; rfl)))); (try simp only [Act.put, zF, zG, zH]))
  (refine TD.val0 (v := ?v68) (by simp only [zA, zB, zC]; rfl) rfl ?hw68 (fun w1 => ?hy68) ?hn68; (case hw68 => rfl); (case hy68 => (go_simp; (try with_reducible rfl))); (try simp only [Act.put, zF, zG, zH]))
  (refine TD.val0 (v := ?v69) (by simp only [zA, zB, zC]; rfl) rfl ?hw69 (fun w1 => ?hy69) ?hn69; (case hw69 => rfl); (case hy69 => (go_simp; (try with_reducible rfl))); (try simp only [Act.put, zF, zG, zH]))
  refine TD.nil (fun w5 hr => ?_)
  have kb := hr.mod.at kb (fun h => h)
  have kp9 := hr.mod.at kp9 (fun h => h)
  have kp10 := hr.box p10 _ (by first | exact Bx.set_same _ _ _ | (simp only [Bx.set_same]; rfl)); dsimp only [Value.cells] at kp10; obtain ⟨gp10, kp10⟩ := kp10
  have m5 := m4.then0 hr.mod
  have n5 := n4.then0 hr.mod
  have gq10 : w.heap.size ≤ p10 := Nat.le_trans m4.size gp10
  clear hr
  go_upto_region 7 with fail
  refine wp_pass (C := fun _ _ _ => False) (κ := fun i => [0, 0, 0, 0, 0, 0, 0, 0, 0].getD i 0) [0, 1, 2, 3, 4, 5, 6, 7, 8] (by kernel_rfl) (by kernel_rfl) (fun _ _ d _ _ h => by cases d <;> first | exact h | exact absurd h (hP _ _ _)) ?_
  (refine TD.val0 (v := ?v70) (by simp only [zA, zB, zC]; rfl) rfl ?hw70 (fun w1 => ?hy70) ?hn70; (case hw70 => rfl); (case hy70 => (go_simp; (try with_reducible rfl))); (try simp only [Act.put, zF, zG, zH]))
  (refine TD.val0 (v := ?v71) (by simp only [zA, zB, zC]; rfl) rfl ?hw71 (fun w1 => ?hy71) ?hn71; (case hw71 => rfl); (case hy71 => (go_simp; (try with_reducible rfl))); (try simp only [Act.put, zF, zG, zH]))
  (refine TD.val0 (v := ?v72) (by simp only [zA, zB, zC]; rfl) rfl ?hw72 (fun w1 => ?hy72) ?hn72; (case hw72 => rfl); (case hy72 => (go_simp; (try with_reducible rfl))); (try simp only [Act.put, zF, zG, zH]))
  (refine TD.pass (by simp only [zA, zB, zC]; rfl) rfl ?hw73 ?hn73; (case hw73 => rfl); (try simp only [Act.put, zF, zG, zH]))
  (refine TD.pass (by simp only [zA, zB, zC]; rfl) rfl ?hw74 ?hn74; (case hw74 => rfl); (try simp only [Act.put, zF, zG, zH]))
  (refine TD.pass (by simp only [zA, zB, zC]; rfl) rfl ?hw75 ?hn75; (case hw75 => rfl); (try simp only [Act.put, zF, zG, zH]))
  (refine TD.pass (by simp only [zA, zB, zC]; rfl) rfl ?hw76 ?hn76; (case hw76 => rfl); (try simp only [Act.put, zF, zG, zH]))
  (refine TD.pass (by simp only [zA, zB, zC]; rfl) rfl ?hw77 ?hn77; (case hw77 => rfl); (try simp only [Act.put, zF, zG, zH]))
  (refine TD.val0 (v := ?v78) (by simp only [zA, zB, zC]; rfl) rfl ?hw78 (fun w1 => ?hy78) ?hn78; (case hw78 => rfl); (case hy78 => (go_simp; (try with_reducible rfl))); (try simp only [Act.put, zF, zG, zH]))
  refine TD.nil (fun w6 hr => ?_)
  have m6 := m5.then0 hr.mod
  clear hr
  go_wp2_with fail
  exact bodyPost_ret (results_tmp3 rfl _ _ _) rfl ⟨rfl, m6⟩
set_option maxRecDepth 20000 in
set_option maxHeartbeats 6400000 in
theorem addL_c (H : BH w0 O b S w) (hf : S.countP Option.isSome = S.length) {D : List Nd} (hD : D.Perm (wtg 0 S)) (hS : Srt D) {i : Nat} {x' : It} (hx' : S[i]? = some (some x')) (hl : D.getLast? = some ⟨x'.rk, idn i⟩) {x : RdR} (hx : RdOk w x) (hs : RdSm x.con) (num : UInt64) (hA : Ahead ⟨x.prio, num⟩ x'.rk = false) :
    Calls Tryd.prog 9 #[ptrV b, u64v num, .agg (rdr x)] w fun e w' => e = .returned (.tuple #[.int .i64 0, .slice none 0 0, .int .i64 3]) ∧ Mod (fun _ => False) w w' := by
  obtain ⟨s, h, R, C, Ts, Th, Tr, HB, rfl, hperm, hT, m⟩ := H
  have kb := HB.kb
  rw [con_count, conS_len] at hf
  have hil : i < (conS R).length := (List.getElem?_eq_some_iff.1 hx').1
  have hsl := HB.sat.len
  rw [conS_len] at hil
  have hid : (idn i).toInt = (i : Int) := idn_toInt (by omega)
  have hbot : ∀ wq, Mod (fun _ => False) w wq → Calls Tryd.prog 29 #[ptrV h] wq fun e w' => e = .returned (.tuple #[.agg (rkc x'.rk), .int .i64 (i : Int), .bool true]) ∧ Mod (fun _ => False) wq w' := fun wq hq => by
    have hb := botS_c (HB.mod0 hq).hat (hD.trans hperm.symm) hS
    rw [hl] at hb
    have hv : env (enOf (some ⟨x'.rk, idn i⟩)) = .tuple #[.agg (rkc x'.rk), .int .i64 (i : Int), .bool true] := by
      show env ⟨x'.rk, idn i, true⟩ = _
      unfold env
      rw [hid]
    rw [hv] at hb
    exact hb
  have HBT := Lib.hid hbot
  have HH := Lib.hid (And.intro HB (And.intro hperm (And.intro hT (And.intro m (And.intro hf (And.intro hf hA))))))
  have HX := Lib.hid (And.intro hx hs)
  clear HB hperm hT m hx hs hf hD hbot hS hx' hl hA hil hsl hid
  go_enter Tryd.func9, Tryd.ntmps9
  go_upto_region 0 with fail
  have Lkb := lt_size kb
  refine wp_pass0 (C := fun _ _ _ => False) (κ := fun i => [3, 0, 0, 0].getD i 0) [0, 1, 2, 3] (by kernel_rfl) (by kernel_rfl) (fun _ _ d _ _ h => by cases d <;> first | exact h | exact absurd h (hP _ _ _)) ?_
  (refine TD.box (v := ?v79) (by simp only [zA, zB, zC]; rfl) rfl ?hw79 rfl rfl ?hx79 (fun p5 hp5 => ?hn79); (case hw79 => rfl); (case hx79 => (simp only [Act.eval, zD, zA, zB, zC, zE]; (try rfl))); (try simp only [Act.put, zF, zG, zH]))
  (refine TD.val0 (v := ?v80) (by simp only [zA, zB, zC]; rfl) rfl ?hw80 (fun w1 => ?hy80) ?hn80; (case hw80 => rfl); (case hy80 => (go_simp; (try with_reducible rfl))); (try simp only [Act.put, zF, zG, zH]))
  (refine TD.val0 (v := ?v81) (by simp only [zA, zB, zC]; rfl) rfl ?hw81 (fun w1 => ?hy81) ?hn81; (case hw81 => rfl); (case hy81 => (go_simp; (try with_reducible rfl))); (try simp only [Act.put, zF, zG, zH]))
  (refine TD.val0 (v := ?v82) (by simp only [zA, zB, zC]; rfl) rfl ?hw82 (fun w1 => ?hy82) ?hn82; (case hw82 => rfl); (case hy82 => (go_simp; (try with_reducible rfl))); (try simp only [Act.put, zF, zG, zH]))
  refine TD.nil (fun w1 hr => ?_)
  have kb := hr.mod.at kb (fun h => h)
  have kp5 := hr.box p5 _ (by first | exact Bx.set_same _ _ _ | (simp only [Bx.set_same]; rfl)); dsimp only [Value.cells] at kp5; obtain ⟨gp5, kp5⟩ := kp5
  have m1 := hr.mod
  clear hr
  go_wp2_with fail
  go_at_call 26
  refine (bthere_c kb).mono ?_
  rintro e w2 ⟨rfl, rfl⟩
  go_upto_region 3 with fail
  have Lkb := lt_size kb
  have Lkp5 := lt_size kp5
  refine wp_gpass0 (T0 := fun _ => False) (K := fun _ _ => True) (κ := fun i => [0, 0, 6, 0, 3, 4].getD i 0) (υ := fun i => [[], [], [], [], [], []].getD i []) [0, 1, 2, 3, 4, 5] (by kernel_rfl) (by kernel_rfl) (Good.true).cl (trivial) (fun _ h => h.elim) ?_
  have gK := Good.true
  (refine TG.v0 (v := ?v83) (by simp only [zA, zB, zC]; rfl) rfl ?hw83 (fun w1 => ?hy83) ?hn83; (case hw83 => rfl); (case hy83 => (go_simp; (try with_reducible rfl))); (try simp only [Act.put, zF, zG, zH]))
  (refine TG.load (v := ?v84) (p := ?p84) (by simp only [zA, zB, zC]; rfl) rfl ?hw84 rfl ?hx84 (fun wq hSq => ?hy84) ?hn84; (case hw84 => rfl); (case hx84 => (simp only [Act.eval, zD, zA, zB, zC, zE]; (try rfl))); (case hy84 => (have kbq := hSq.at kb (by intro hT; first | exact hT | exact absurd hT (by assumption) | omega | (simp only at hT; omega)); have kp5q := hSq.at kp5 (by intro hT; first | exact hT | exact absurd hT (by assumption) | omega | (simp only at hT; omega)); go_simp; (try with_reducible rfl))); (try simp only [Act.put, zF, zG, zH]))
  (refine TG.callM (f := ?f85) (args := ?r85) (RdL w.heap.size x.con) (goodRd w.heap.size x.con) gK (by simp only [zA, zB, zC]; rfl) rfl ?hw85 (fun w1 => ?hy85) (fun T wq kq ltq hSq ub => ?hsp85) ?hn85; (case hw85 => rfl); (case hy85 => (go_simp; (first | with_reducible rfl | (constructor <;> with_reducible rfl)))); (case hsp85 => (have kbq := hSq.at kb (by intro hT; first | exact hT | exact absurd hT (by assumption) | omega | (simp only at hT; omega)); have kp5q := hSq.at kp5 (by intro hT; first | exact hT | exact absurd hT (by assumption) | omega | (simp only at hT; omega)); exact freshL (x := x) w.heap.size (m1.then0 hSq).size T (HX.out.1.mod0 (m1.then0 hSq)) HX.out.2)); rintro v85 ⟨wI, TI, hI⟩; replace gK := gK.and ((goodRd w.heap.size x.con) v85); (obtain ⟨_, z0, rfl, _⟩ := hI.k); (try clear hI TI wI); (try simp only [Act.put, zF, zG, zH]))
  (refine TG.build (v := ?v86) (ps := ?p86) (by simp only [zA, zB, zC]; rfl) rfl ?hw86 rfl ?hx86 (fun w1 => ?hy86) ?hn86; (case hw86 => rfl); (case hx86 => (simp only [List.map_toArray, List.map_cons, List.map_nil, Act.eval, zD, zA, zB, zC, zE]; (try rfl))); (case hy86 => (rw [(bldItem num z0)]; (try with_reducible rfl))); (try simp only [Act.put, zF, zG, zH]))
  (refine TG.allocB (by simp only [zA, zB, zC]; rfl) rfl ?hw87 rfl rfl alItem (fun p9 hp9 _ => ?hn87); (case hw87 => rfl); (try simp only [Act.put, zF, zG, zH]))
  (refine TG.storeB (d := ?d88) (T := ?T88) (y := ?y88) (p := ?p88) (b := ?b88) (v := ?v88) (by simp only [zA, zB, zC]; rfl) rfl ?hw88 ?hd88 ?hop88 ?hev88 ?hx88 ?hb88 ?htag88 (fun w1 hb1 => ?hy88) ?hn88; (case hw88 => rfl); (case hd88 => rfl); (case hop88 => rfl); (case hev88 => (simp only [Act.eval, zD, zA, zB, zC, zE]; (try rfl))); (case hx88 => (simp only [Act.eval, zD, zA, zB, zC, zE]; (try rfl))); (case hb88 => first | exact Bx.set_same _ _ _ | (simp only [Bx.set_same]; rfl)); (case htag88 => rfl); (case hy88 => (go_simp; (try first | with_reducible rfl | (rw [setCell_blk hb1]; rfl)))); (try simp only [Act.put, zF, zG, zH]))
  refine TG.nil (fun w3 ⟨TR, hr⟩ => ?_)
  have kb := hr.mod.at kb (by intro hT; first | exact hT | exact absurd hT (by assumption) | omega | (simp only at hT; omega))
  have kp5 := hr.mod.at kp5 (by intro hT; first | exact hT | exact absurd hT (by assumption) | omega | (simp only at hT; omega))
  have kp9 := hr.box p9 _ (by first | exact Bx.set_same _ _ _ | (simp only [Bx.set_same]; rfl)); dsimp only [Value.cells] at kp9; obtain ⟨gp9, nTp9, kp9⟩ := kp9
  clear gK
  obtain ⟨_, z, hz, hzc, hzn, hzi⟩ := hr.k
  injection hz with hz
  rw [itr_congr hz] at kp9
  have m3 := m1.then0 hr.mod
  obtain ⟨y, hy⟩ : ∃ y : ItR, y = ⟨num, z, 0, false⟩ := ⟨_, rfl⟩
  rw [← hy] at kp9
  have gq9 : w.heap.size ≤ p9 := Nat.le_trans m1.size gp9
  have HZ := Lib.hid (And.intro hy (And.intro hzc (And.intro hzn (And.intro hz m3))))
  clear hr hzc hzn hzi hz hy kp5
  have HB3 := Lib.hid (HH.out.1.mod0 HZ.out.2.2.2.2)
  go_upto_region 4 with fail
  have Lkb := lt_size kb
  have Lkp9 := lt_size kp9
  refine wp_pass (C := fun _ _ v => v = .tuple #[.int .i64 0, .int .i64 3]) (κ := fun i => [0, 0, 0, 0, 1, 1, 2, 0, 0, 0, 0, 0].getD i 0) [0, 1, 2, 3, 4, 5, 6, 7, 8, 9, 10, 11] (by kernel_rfl) (by kernel_rfl) (fun _ _ d _ _ h => by cases d <;> first | exact h | exact absurd h (hP _ _ _)) ?_
  (refine TD.val0 (v := ?v89) (by simp only [zA, zB, zC]; rfl) rfl ?hw89 (fun w1 => ?hy89) ?hn89; (case hw89 => rfl); (case hy89 => (go_simp; (try with_reducible rfl))); (try simp only [Act.put, zF, zG, zH]))
  (refine TD.val0 (v := ?v90) (by simp only [zA, zB, zC]; rfl) rfl ?hw90 (fun w1 => ?hy90) ?hn90; (case hw90 => rfl); (case hy90 => (go_simp; (try with_reducible rfl))); (try simp only [Act.put, zF, zG, zH]))
  (refine TD.val0 (v := ?v91) (by simp only [zA, zB, zC]; rfl) rfl ?hw91 (fun w1 => ?hy91) ?hn91; (case hw91 => rfl); (case hy91 => (go_simp; (try with_reducible rfl))); (try simp only [Act.put, zF, zG, zH]))
  (refine TD.val0 (v := ?v92) (by simp only [zA, zB, zC]; rfl) rfl ?hw92 (fun w1 => ?hy92) ?hn92; (case hw92 => rfl); (case hy92 => (go_simp; (try with_reducible rfl))); (try simp only [Act.put, zF, zG, zH]))
  (refine TD.load (v := ?v93) (p := ?p93) (Mod.refl _ _) (by simp only [zA, zB, zC]; rfl) rfl ?hw93 rfl ?hx93 (fun wq hSq => ?hy93) ?hn93; (case hw93 => rfl); (case hx93 => (simp only [Act.eval, zD, zA, zB, zC, zE]; (try rfl))); (case hy93 => (have kbq := hSq.at kb (fun h => h); have kp9q := hSq.at kp9 (fun h => h); go_simp; (try with_reducible rfl))); (try simp only [Act.put, zF, zG, zH]))
  (refine TD.load (v := ?v94) (p := ?p94) (Mod.refl _ _) (by simp only [zA, zB, zC]; rfl) rfl ?hw94 rfl ?hx94 (fun wq hSq => ?hy94) ?hn94; (case hw94 => rfl); (case hx94 => (simp only [Act.eval, zD, zA, zB, zC, zE]; (try rfl))); (case hy94 => (have kbq := hSq.at kb (fun h => h); have kp9q := hSq.at kp9 (fun h => h); go_simp; (try with_reducible rfl))); (try simp only [Act.put, zF, zG, zH]))
  (refine TD.call (f := ?f95) (args := ?r95) (Mod.refl _ _) (by simp only [zA, zB, zC]; rfl) rfl ?hw95 (fun w1 => ?hy95) ?hsp95 ?hn95; (case hw95 => rfl); (case hy95 => (go_simp; (first | with_reducible rfl | (constructor <;> with_reducible rfl)))); (case hsp95 => (intro wq hSq; have kbq := hSq.at kb (fun h => h); have kp9q := hSq.at kp9 (fun h => h); exact (sputN_c (HB3.out.mod0 hSq).sat HH.out.2.2.2.2.2.1 y).mono (fun e w' h => ⟨_, h.1, rfl, h.2⟩))); rintro _ rfl; (try simp only [Act.put, zF, zG, zH]))
  (refine TD.val0 (v := ?v96) (by simp only [zA, zB, zC]; rfl) rfl ?hw96 (fun w1 => ?hy96) ?hn96; (case hw96 => rfl); (case hy96 => (go_simp; (try with_reducible rfl))); (try simp only [Act.put, zF, zG, zH]))
  (refine TD.val0 (v := ?v97) (by simp only [zA, zB, zC]; rfl) rfl ?hw97 (fun w1 => ?hy97) ?hn97; (case hw97 => rfl); (case hy97 => (go_simp; (try with_reducible rfl))); (try simp only [Act.put, zF, zG, zH]))
  (refine TD.val0 (v := ?v98) (by simp only [zA, zB, zC]; rfl) rfl ?hw98 (fun w1 => ?hy98) ?hn98; (case hw98 => rfl); (case hy98 => (go_simp; (try with_reducible rfl))); (try simp only [Act.put, zF, zG, zH]))
  (refine TD.val0 (v := ?v99) (by simp only [zA, zB, zC]; rfl) rfl ?hw99 (fun w1 => ?hy99) ?hn99; (case hw99 => rfl); (case hy99 => (go_simp; (try with_reducible rfl))); (try simp only [Act.put, zF, zG, zH]))
  (refine TD.val0 (v := ?v100) (by simp only [zA, zB, zC]; rfl) rfl ?hw100 (fun w1 => ?hy100) ?hn100; (case hw100 => rfl); (case hy100 => (go_simp; (try with_reducible rfl))); (try simp only [Act.put, zF, zG, zH]))
  refine TD.nil (fun w4 hr => ?_)
  have kb := hr.mod.at kb (fun h => h)
  have kp9 := hr.mod.at kp9 (fun h => h)
  have m4 := m3.then0 hr.mod
  have n4 := hr.mod
  clear hr
  go_upto_region 6 with fail
  have Lkb := lt_size kb
  have Lkp9 := lt_size kp9
  refine wp_pass0 (C := fun _ _ v => v = .tuple #[.agg (rkc x'.rk), .int .i64 (i : Int), .bool true]) (κ := fun i => [0, 0, 0, 0, 1, 2, 0, 0, 0, 0, 3, 4, 0, 0].getD i 0) [0, 1, 2, 3, 4, 5, 6, 7, 8, 9, 10, 11, 12, 13] (by kernel_rfl) (by kernel_rfl) (fun _ _ d _ _ h => by cases d <;> first | exact h | exact absurd h (hP _ _ _)) ?_
  (refine TD.val0 (v := ?v101) (by simp only [zA, zB, zC]; rfl) rfl ?hw101 (fun w1 => ?hy101) ?hn101; (case hw101 => rfl); (case hy101 => (go_simp; (try with_reducible rfl))); (try simp only [Act.put, zF, zG, zH]))
  (refine TD.val0 (v := ?v102) (by simp only [zA, zB, zC]; rfl) rfl ?hw102 (fun w1 => ?hy102) ?hn102; (case hw102 => rfl); (case hy102 => (go_simp; (try with_reducible rfl))); (try simp only [Act.put, zF, zG, zH]))
  (refine TD.val0 (v := ?v103) (by simp only [zA, zB, zC]; rfl) rfl ?hw103 (fun w1 => ?hy103) ?hn103; (case hw103 => rfl); (case hy103 => (go_simp; (try with_reducible rfl))); (try simp only [Act.put, zF, zG, zH]))
  (refine TD.val0 (v := ?v104) (by simp only [zA, zB, zC]; rfl) rfl ?hw104 (fun w1 => ?hy104) ?hn104; (case hw104 => rfl); (case hy104 => (go_simp; (try with_reducible rfl))); (try simp only [Act.put, zF, zG, zH]))
  (refine TD.load (v := ?v105) (p := ?p105) (Mod.refl _ _) (by simp only [zA, zB, zC]; rfl) rfl ?hw105 rfl ?hx105 (fun wq hSq => ?hy105) ?hn105; (case hw105 => rfl); (case hx105 => (simp only [Act.eval, zD, zA, zB, zC, zE]; (try rfl))); (case hy105 => (have kbq := hSq.at kb (fun h => h); have kp9q := hSq.at kp9 (fun h => h); go_simp; (try with_reducible rfl))); (try simp only [Act.put, zF, zG, zH]))
  (refine TD.call (f := ?f106) (args := ?r106) (Mod.refl _ _) (by simp only [zA, zB, zC]; rfl) rfl ?hw106 (fun w1 => ?hy106) ?hsp106 ?hn106; (case hw106 => rfl); (case hy106 => (go_simp; (first | with_reducible rfl | (constructor <;> with_reducible rfl)))); (case hsp106 => (intro wq hSq; have kbq := hSq.at kb (fun h => h); have kp9q := hSq.at kp9 (fun h => h); exact (HBT.out wq (m4.then0 hSq)).mono (fun e w' h => ⟨_, h.1, rfl, h.2⟩))); rintro _ rfl; (try simp only [Act.put, zF, zG, zH]))
  (refine TD.val0 (v := ?v107) (by simp only [zA, zB, zC]; rfl) rfl ?hw107 (fun w1 => ?hy107) ?hn107; (case hw107 => rfl); (case hy107 => (go_simp; (try with_reducible rfl))); (try simp only [Act.put, zF, zG, zH]))
  (refine TD.val0 (v := ?v108) (by simp only [zA, zB, zC]; rfl) rfl ?hw108 (fun w1 => ?hy108) ?hn108; (case hw108 => rfl); (case hy108 => (go_simp; (try with_reducible rfl))); (try simp only [Act.put, zF, zG, zH]))
  (refine TD.val0 (v := ?v109) (by simp only [zA, zB, zC]; rfl) rfl ?hw109 (fun w1 => ?hy109) ?hn109; (case hw109 => rfl); (case hy109 => (go_simp; (try with_reducible rfl))); (try simp only [Act.put, zF, zG, zH]))
  (refine TD.val0 (v := ?v110) (by simp only [zA, zB, zC]; rfl) rfl ?hw110 (fun w1 => ?hy110) ?hn110; (case hw110 => rfl); (case hy110 => (go_simp; (try with_reducible rfl))); (try simp only [Act.put, zF, zG, zH]))
  (refine TD.allocB (by simp only [zA, zB, zC]; rfl) rfl ?hw111 rfl rfl alRk (fun p10 hp10 => ?hn111); (case hw111 => rfl); (try simp only [Act.put, zF, zG, zH]))
  (refine TD.storeB (d := ?d112) (T := ?T112) (y := ?y112) (p := ?p112) (b := ?b112) (v := ?v112) (by simp only [zA, zB, zC]; rfl) rfl ?hw112 ?hd112 ?hop112 ?hev112 ?hx112 ?hb112 ?htag112 (fun w1 hb1 => ?hy112) ?hn112; (case hw112 => rfl); (case hd112 => rfl); (case hop112 => rfl); (case hev112 => (simp only [Act.eval, zD, zA, zB, zC, zE]; (try rfl))); (case hx112 => (simp only [Act.eval, zD, zA, zB, zC, zE]; (try rfl))); (case hb112 => first | exact Bx.set_same _ _ _ | (simp only [Bx.set_same]; rfl)); (case hy112 => (go_simp; (try first | with_reducible rfl | (rw [setCell_blk hb1]; rfl)))); (try simp only [Act.put, zF, zG, zH]))
  (refine TD.val0 (v := ?v113) (by simp only [zA, zB, zC]; rfl) rfl ?hw113 (fun w1 => ?hy113) ?hn113; (case hw113 => rfl); (case hy113 => (go_simp; (try with_reducible rfl))); (try simp only [Act.put, zF, zG, zH]))
  (refine TD.val0 (v := ?v114) (by simp only [zA, zB, zC]; rfl) rfl ?hw114 (fun w1 => ?hy114) ?hn114; (case hw114 => rfl); (case hy114 => (go_simp; (try with_reducible rfl))); (try simp only [Act.put, zF, zG, zH]))
  refine TD.nil (fun w5 hr => ?_)
  have kb := hr.mod.at kb (fun h => h)
  have kp9 := hr.mod.at kp9 (fun h => h)
  have kp10 := hr.box p10 _ (by first | exact Bx.set_same _ _ _ | (simp only [Bx.set_same]; rfl)); dsimp only [Value.cells] at kp10; obtain ⟨gp10, kp10⟩ := kp10
  have m5 := m4.then0 hr.mod
  have n5 := n4.then0 hr.mod
  have gq10 : w.heap.size ≤ p10 := Nat.le_trans m4.size gp10
  clear hr
  have hyr : y.rk = ⟨x.prio, num⟩ := by
    rw [HZ.out.1]
    show (⟨z.prio, num⟩ : Rk) = _
    have : z.con.prio = x.con.prio := by rw [HZ.out.2.1]
    rw [show z.prio = x.prio from this]
  have HA := Lib.hid (show Ahead y.rk x'.rk = false by rw [hyr]; exact HH.out.2.2.2.2.2.2)
  clear hyr
  go_upto_region 7 with fail
  have Lkp9 := lt_size kp9
  have Lkp10 := lt_size kp10
  refine wp_gpass (T0 := fun _ => False) (K := fun _ _ => True) (κ := fun i => [0, 0, 0, 0, 6, 0, 6, 0, 0].getD i 0) (υ := fun i => [[], [], [], [], [], [], [], [], []].getD i []) [0, 1, 2, 3, 4, 5, 6, 7, 8] (by kernel_rfl) (by kernel_rfl) (Good.true).cl (trivial) (fun _ h => h.elim) ?_
  have gK := Good.true
  (refine TG.v0 (v := ?v115) (by simp only [zA, zB, zC]; rfl) rfl ?hw115 (fun w1 => ?hy115) ?hn115; (case hw115 => rfl); (case hy115 => (go_simp; (try with_reducible rfl))); (try simp only [Act.put, zF, zG, zH]))
  (refine TG.v0 (v := ?v116) (by simp only [zA, zB, zC]; rfl) rfl ?hw116 (fun w1 => ?hy116) ?hn116; (case hw116 => rfl); (case hy116 => (go_simp; (try with_reducible rfl))); (try simp only [Act.put, zF, zG, zH]))
  (refine TG.v0 (v := ?v117) (by simp only [zA, zB, zC]; rfl) rfl ?hw117 (fun w1 => ?hy117) ?hn117; (case hw117 => rfl); (case hy117 => (go_simp; (try with_reducible rfl))); (try simp only [Act.put, zF, zG, zH]))
  (refine TG.load (v := ?v118) (p := ?p118) (by simp only [zA, zB, zC]; rfl) rfl ?hw118 rfl ?hx118 (fun wq hSq => ?hy118) ?hn118; (case hw118 => rfl); (case hx118 => (simp only [Act.eval, zD, zA, zB, zC, zE]; (try rfl))); (case hy118 => (have kp9q := hSq.at kp9 (by intro hT; first | exact hT | exact absurd hT (by assumption) | omega | (simp only at hT; omega)); have kp10q := hSq.at kp10 (by intro hT; first | exact hT | exact absurd hT (by assumption) | omega | (simp only at hT; omega)); go_simp; (try with_reducible rfl))); (try simp only [Act.put, zF, zG, zH]))
  (refine TG.callN (f := ?f119) (args := ?r119) (fun v => v = .agg (rkc y.rk)) gK (by simp only [zA, zB, zC]; rfl) rfl ?hw119 (fun w1 => ?hy119) (fun T wq kq ltq hSq ub => ?hsp119) ?hn119; (case hw119 => rfl); (case hy119 => (go_simp; (first | with_reducible rfl | (constructor <;> with_reducible rfl)))); (case hsp119 => (have kp9q := hSq.at kp9 (by intro hT; first | exact hT | exact absurd hT (by assumption) | omega | (simp only at hT; omega)); have kp10q := hSq.at kp10 (by intro hT; first | exact hT | exact absurd hT (by assumption) | omega | (simp only at hT; omega)); exact (irank_c y wq).mono (fun e w' h => ⟨_, h.1, rfl, h.2⟩))); rintro v119 hC; subst hC; (try simp only [Act.put, zF, zG, zH]))
  (refine TG.load (v := ?v120) (p := ?p120) (by simp only [zA, zB, zC]; rfl) rfl ?hw120 rfl ?hx120 (fun wq hSq => ?hy120) ?hn120; (case hw120 => rfl); (case hx120 => (simp only [Act.eval, zD, zA, zB, zC, zE]; (try rfl))); (case hy120 => (have kp9q := hSq.at kp9 (by intro hT; first | exact hT | exact absurd hT (by assumption) | omega | (simp only at hT; omega)); have kp10q := hSq.at kp10 (by intro hT; first | exact hT | exact absurd hT (by assumption) | omega | (simp only at hT; omega)); go_simp; (try with_reducible rfl))); (try simp only [Act.put, zF, zG, zH]))
  (refine TG.callN (f := ?f121) (args := ?r121) (fun v => v = .bool false) gK (by simp only [zA, zB, zC]; rfl) rfl ?hw121 (fun w1 => ?hy121) (fun T wq kq ltq hSq ub => ?hsp121) ?hn121; (case hw121 => rfl); (case hy121 => (go_simp; (first | with_reducible rfl | (constructor <;> with_reducible rfl)))); (case hsp121 => (have kp9q := hSq.at kp9 (by intro hT; first | exact hT | exact absurd hT (by assumption) | omega | (simp only at hT; omega)); have kp10q := hSq.at kp10 (by intro hT; first | exact hT | exact absurd hT (by assumption) | omega | (simp only at hT; omega)); exact (aheadC y.rk x'.rk wq).mono (fun e w' h => by obtain ⟨v, h1, h2, h3⟩ := h; rw [HA.out] at h2; exact ⟨v, h1, h2, h3⟩))); rintro v121 hC; subst hC; (try simp only [Act.put, zF, zG, zH]))
  (refine TG.v0 (v := ?v122) (by simp only [zA, zB, zC]; rfl) rfl ?hw122 (fun w1 => ?hy122) ?hn122; (case hw122 => rfl); (case hy122 => (go_simp; (try with_reducible rfl))); (try simp only [Act.put, zF, zG, zH]))
  (refine TG.v0 (v := ?v123) (by simp only [zA, zB, zC]; rfl) rfl ?hw123 (fun w1 => ?hy123) ?hn123; (case hw123 => rfl); (case hy123 => (go_simp; (try with_reducible rfl))); (try simp only [Act.put, zF, zG, zH]))
  refine TG.nil (fun w6 ⟨TR, hr⟩ => ?_)
  have kp9 := hr.mod.at kp9 (by intro hT; first | exact hT | exact absurd hT (by assumption) | omega | (simp only at hT; omega))
  have kp10 := hr.mod.at kp10 (by intro hT; first | exact hT | exact absurd hT (by assumption) | omega | (simp only at hT; omega))
  clear gK
  have m6 := m5.then0 hr.mod
  clear hr
  go_wp2_with fail
  exact bodyPost_ret (results_tmp3 rfl _ _ _) rfl ⟨rfl, m6⟩
end
end Go.Proofs.YtdeghpmlhcaedaaDoor
/- Buffers: Add that puts one out. -/
namespace Go.Proofs.YtdeghpmlhcaedaaDoor
open Go.RowKit
open Go.ChangeMaps (setBlock)
set_option linter.unusedSimpArgs false
set_option linter.unusedVariables false
theorem rkc1 (r : Rk) : (rkc r)[1]? = some (u64v r.n) := rfl
attribute [local go_sem ↓] wlItem ldItem stItem wlRdy ldRdy stRdy wlRk ldRk stRk eqRk eqRk2
attribute [local go_sem] cell_blk frozen_blk one_int one_bool one_ptr one_slice one_map Value.cells rkc_size rkc_all1 itr_size itr_all itr_one itr_one' itr_n itr_prio itr_pl itr_sent itr_n' itr_prio' itr_pl' itr_sent' itr_r zItem_size zItem_all zItem_one rdr_size rdr_all rdr_one rdr_one' zRk_sz rkc1
def nc (n : UInt64) : Array Value := #[u64v n]
theorem u64T : ElT Tryd.prog 22 30 nc 1 8 where
  u := Tryd.underlying22
  info := by
    obtain ⟨i0, hi, hz0, hz1, hz2⟩ := info_parts (show (Tryd.prog.info? 30).map (fun i => (i.zero, i.size, i.bytes)) = some (some (.int .u64 0), 1, 8) by kernel_rfl)
    exact ⟨i0, _, hi, hz0, hz1, hz2, rfl⟩
  pos := by omega
  size x := rfl
  one x u hu := by
    simp [nc] at hu
    subst hu
    rfl
theorem bsU64 (x : UInt64) (w : World) : (Instr.buildSlice 22 1 #[(0, u64v x)]).run Tryd.prog w = .ok (.slice (some ⟨w.heap.size, 0, none⟩) 1 1) (w.alloc (.cells (nc x) 30)) := by
  obtain ⟨i0, z, hi, hz, hz1, hz2, hz3⟩ := u64T.info
  refine run_buildSlice w _ _ 1 _ _ i0 _ Tryd.underlying22 hi hz (by rw [hz1]; omega) (by rw [hz1]; omega) ?_
  rw [hz1]
  show Instr.fill _ _ [(0, _)] = _
  rw [fill_cons (off := 0) (n := 1) rfl rfl (by simp)]
  show some (wr _ 0 (nc x).toList) = _
  rw [wr_whole (nc x) _ (by simp [nc, hz3])]
theorem full_free {S : List (Option It)} {i : Nat} (hf : S.countP Option.isSome = S.length) (hi : i < S.length) : FreeS (S.set i none) i := by
  refine ⟨List.getElem?_set_self hi, fun j hj => ?_⟩
  rw [List.getElem?_set_ne (by omega)]
  have h1 := List.countP_eq_length.1 hf
  have hj2 : j < S.length := by omega
  have h2 := h1 S[j] (List.getElem_mem hj2)
  have h3 := List.getElem?_eq_getElem hj2
  cases hc : S[j] with
  | none => rw [hc] at h2; cases h2
  | some y => rw [hc] at h3; exact ⟨y, h3⟩
section
variable {w0 w w' ws : World} {O : Nat → Prop} {b : Nat} {S : List (Option It)}
set_option maxRecDepth 20000 in
set_option maxHeartbeats 12800000 in
theorem addO_c (H : BH w0 O b S w) (h0 : 0 < w0.heap.size ∧ ¬ O 0) (ht : TabW w) (hf : S.countP Option.isSome = S.length) {D : List Nd} (hD : D.Perm (wtg 0 S)) (hS : Srt D) {i : Nat} {x' : It} (hx' : S[i]? = some (some x')) (hp' : x'.pl = 0) (hl : D.getLast? = some ⟨x'.rk, idn i⟩) {x : RdR} (hx : RdOk w x) (hs : RdSm x.con) (num : UInt64) (hA : Ahead ⟨x.prio, num⟩ x'.rk = true) :
    Calls Tryd.prog 9 #[ptrV b, u64v num, .agg (rdr x)] w fun e w' => ∃ v, e = .returned (.tuple #[.int .i64 (i : Int), v, .int .i64 0]) ∧ NewS nc 1 30 w.heap.size w' v [x'.n] ∧ ∃ T', BHo w0 O b (S.set i (some ⟨num, x.con, 0, false⟩)) T' w' ∧ ∀ g, v.ownBlock = some g → ¬ T' g := by
  obtain ⟨s, h, R, C, Ts, Th, Tr, HB, rfl, hperm, hT, m⟩ := H
  have kb := HB.kb
  rw [con_count, conS_len] at hf
  have hil : i < (conS R).length := (List.getElem?_eq_some_iff.1 hx').1
  have hsl := HB.sat.len
  rw [conS_len] at hil
  have hid : (idn i).toInt = (i : Int) := idn_toInt (by omega)
  have hbot : ∀ wq, Mod (fun _ => False) w wq → Calls Tryd.prog 29 #[ptrV h] wq fun e w' => e = .returned (.tuple #[.agg (rkc x'.rk), .int .i64 (i : Int), .bool true]) ∧ Mod (fun _ => False) wq w' := fun wq hq => by
    have hb := botS_c (HB.mod0 hq).hat (hD.trans hperm.symm) hS
    rw [hl] at hb
    have hv : env (enOf (some ⟨x'.rk, idn i⟩)) = .tuple #[.agg (rkc x'.rk), .int .i64 (i : Int), .bool true] := by
      show env ⟨x'.rk, idn i, true⟩ = _
      unfold env
      rw [hid]
    rw [hv] at hb
    exact hb
  have HBT := Lib.hid hbot
  obtain ⟨y', hy', hyc⟩ := con_at hx'
  have hp2 : y'.pl = 0 := UInt8.toNat_inj.1 (by rw [← hyc] at hp'; exact hp')
  have hff : FreeS (conS (R.set i none)) i := by rw [con_setN]; exact full_free (by rw [con_count, conS_len]; exact hf) (by rw [conS_len]; exact hil)
  have hyr' : y'.rk = x'.rk := by rw [← hyc]; rfl
  have HH := Lib.hid (And.intro HB (And.intro hperm (And.intro hT (And.intro m (And.intro hf (And.intro hf hA))))))
  have HX := Lib.hid (And.intro hx hs)
  have HY := Lib.hid (And.intro hy' (And.intro hp2 (And.intro hff (And.intro hil (And.intro hyr' (And.intro h0 ht))))))
  clear HB hperm hT m hx hs hf hD hbot hS hx' hl hA hil hsl hid hy' hyc hp' hp2 hff hyr' h0 ht
  go_enter Tryd.func9, Tryd.ntmps9
  go_upto_region 0 with fail
  have Lkb := lt_size kb
  refine wp_pass0 (C := fun _ _ _ => False) (κ := fun i => [3, 0, 0, 0].getD i 0) [0, 1, 2, 3] (by kernel_rfl) (by kernel_rfl) (fun _ _ d _ _ h => by cases d <;> first | exact h | exact absurd h (hP _ _ _)) ?_
  (refine TD.box (v := ?v1) (by simp only [zA, zB, zC]; rfl) rfl ?hw1 rfl rfl ?hx1 (fun p5 hp5 => ?hn1); (case hw1 => rfl); (case hx1 => (simp only [Act.eval, zD, zA, zB, zC, zE]; (try rfl))); (try simp only [Act.put, zF, zG, zH]))
  (refine TD.val0 (v := ?v2) (by simp only [zA, zB, zC]; rfl) rfl ?hw2 (fun w1 => ?hy2) ?hn2; (case hw2 => rfl); (case hy2 => (go_simp; (try with_reducible rfl))); (try simp only [Act.put, zF, zG, zH]))
  (refine TD.val0 (v := ?v3) (by simp only [zA, zB, zC]; rfl) rfl ?hw3 (fun w1 => ?hy3) ?hn3; (case hw3 => rfl); (case hy3 => (go_simp; (try with_reducible rfl))); (try simp only [Act.put, zF, zG, zH]))
  (refine TD.val0 (v := ?v4) (by simp only [zA, zB, zC]; rfl) rfl ?hw4 (fun w1 => ?hy4) ?hn4; (case hw4 => rfl); (case hy4 => (go_simp; (try with_reducible rfl))); (try simp only [Act.put, zF, zG, zH]))
  refine TD.nil (fun w1 hr => ?_)
  have kb := hr.mod.at kb (fun h => h)
  have kp5 := hr.box p5 _ (by first | exact Bx.set_same _ _ _ | (simp only [Bx.set_same]; rfl)); dsimp only [Value.cells] at kp5; obtain ⟨gp5, kp5⟩ := kp5
  have m1 := hr.mod
  clear hr
  go_wp2_with fail
  go_at_call 26
  refine (bthere_c kb).mono ?_
  rintro e w2 ⟨rfl, rfl⟩
  go_upto_region 3 with fail
  have Lkb := lt_size kb
  have Lkp5 := lt_size kp5
  refine wp_gpass0 (T0 := fun _ => False) (K := fun _ _ => True) (κ := fun i => [0, 0, 6, 0, 3, 4].getD i 0) (υ := fun i => [[], [], [], [], [], []].getD i []) [0, 1, 2, 3, 4, 5] (by kernel_rfl) (by kernel_rfl) (Good.true).cl (trivial) (fun _ h => h.elim) ?_
  have gK := Good.true
  (refine TG.v0 (v := ?v5) (by simp only [zA, zB, zC]; rfl) rfl ?hw5 (fun w1 => ?hy5) ?hn5; (case hw5 => rfl); (case hy5 => (go_simp; (try with_reducible rfl))); (try simp only [Act.put, zF, zG, zH]))
  (refine TG.load (v := ?v6) (p := ?p6) (by simp only [zA, zB, zC]; rfl) rfl ?hw6 rfl ?hx6 (fun wq hSq => ?hy6) ?hn6; (case hw6 => rfl); (case hx6 => (simp only [Act.eval, zD, zA, zB, zC, zE]; (try rfl))); (case hy6 => (have kbq := hSq.at kb (by intro hT; first | exact hT | exact absurd hT (by assumption) | omega | (simp only at hT; omega)); have kp5q := hSq.at kp5 (by intro hT; first | exact hT | exact absurd hT (by assumption) | omega | (simp only at hT; omega)); go_simp; (try with_reducible rfl))); (try simp only [Act.put, zF, zG, zH]))
  (refine TG.callM (f := ?f7) (args := ?r7) (RdL w.heap.size x.con) (goodRd w.heap.size x.con) gK (by simp only [zA, zB, zC]; rfl) rfl ?hw7 (fun w1 => ?hy7) (fun T wq kq ltq hSq ub => ?hsp7) ?hn7; (case hw7 => rfl); (case hy7 => (go_simp; (first | with_reducible rfl | (constructor <;> with_reducible rfl)))); (case hsp7 => (have kbq := hSq.at kb (by intro hT; first | exact hT | exact absurd hT (by assumption) | omega | (simp only at hT; omega)); have kp5q := hSq.at kp5 (by intro hT; first | exact hT | exact absurd hT (by assumption) | omega | (simp only at hT; omega)); exact freshL (x := x) w.heap.size (m1.then0 hSq).size T (HX.out.1.mod0 (m1.then0 hSq)) HX.out.2)); rintro v7 ⟨wI, TI, hI⟩; replace gK := gK.and ((goodRd w.heap.size x.con) v7); (obtain ⟨_, z0, rfl, _⟩ := hI.k); (try clear hI TI wI); (try simp only [Act.put, zF, zG, zH]))
  (refine TG.build (v := ?v8) (ps := ?p8) (by simp only [zA, zB, zC]; rfl) rfl ?hw8 rfl ?hx8 (fun w1 => ?hy8) ?hn8; (case hw8 => rfl); (case hx8 => (simp only [List.map_toArray, List.map_cons, List.map_nil, Act.eval, zD, zA, zB, zC, zE]; (try rfl))); (case hy8 => (rw [(bldItem num z0)]; (try with_reducible rfl))); (try simp only [Act.put, zF, zG, zH]))
  (refine TG.allocB (by simp only [zA, zB, zC]; rfl) rfl ?hw9 rfl rfl alItem (fun p9 hp9 _ => ?hn9); (case hw9 => rfl); (try simp only [Act.put, zF, zG, zH]))
  (refine TG.storeB (d := ?d10) (T := ?T10) (y := ?y10) (p := ?p10) (b := ?b10) (v := ?v10) (by simp only [zA, zB, zC]; rfl) rfl ?hw10 ?hd10 ?hop10 ?hev10 ?hx10 ?hb10 ?htag10 (fun w1 hb1 => ?hy10) ?hn10; (case hw10 => rfl); (case hd10 => rfl); (case hop10 => rfl); (case hev10 => (simp only [Act.eval, zD, zA, zB, zC, zE]; (try rfl))); (case hx10 => (simp only [Act.eval, zD, zA, zB, zC, zE]; (try rfl))); (case hb10 => first | exact Bx.set_same _ _ _ | (simp only [Bx.set_same]; rfl)); (case htag10 => rfl); (case hy10 => (go_simp; (try first | with_reducible rfl | (rw [setCell_blk hb1]; rfl)))); (try simp only [Act.put, zF, zG, zH]))
  refine TG.nil (fun w3 ⟨TR, hr⟩ => ?_)
  have kb := hr.mod.at kb (by intro hT; first | exact hT | exact absurd hT (by assumption) | omega | (simp only at hT; omega))
  have kp5 := hr.mod.at kp5 (by intro hT; first | exact hT | exact absurd hT (by assumption) | omega | (simp only at hT; omega))
  have kp9 := hr.box p9 _ (by first | exact Bx.set_same _ _ _ | (simp only [Bx.set_same]; rfl)); dsimp only [Value.cells] at kp9; obtain ⟨gp9, nTp9, kp9⟩ := kp9
  clear gK
  obtain ⟨_, z, hz, hzc, hzn, hzi⟩ := hr.k
  injection hz with hz
  rw [itr_congr hz] at kp9
  have m3 := m1.then0 hr.mod
  obtain ⟨y, hy⟩ : ∃ y : ItR, y = ⟨num, z, 0, false⟩ := ⟨_, rfl⟩
  rw [← hy] at kp9
  have gq9 : w.heap.size ≤ p9 := Nat.le_trans m1.size gp9
  have HZ := Lib.hid (And.intro hy (And.intro hzc (And.intro hzn (And.intro hz m3))))
  clear hr hzc hzn hzi hz hy kp5
  have HB3 := Lib.hid (HH.out.1.mod0 HZ.out.2.2.2.2)
  go_upto_region 4 with fail
  have Lkb := lt_size kb
  have Lkp9 := lt_size kp9
  refine wp_pass (C := fun _ _ v => v = .tuple #[.int .i64 0, .int .i64 3]) (κ := fun i => [0, 0, 0, 0, 1, 1, 2, 0, 0, 0, 0, 0].getD i 0) [0, 1, 2, 3, 4, 5, 6, 7, 8, 9, 10, 11] (by kernel_rfl) (by kernel_rfl) (fun _ _ d _ _ h => by cases d <;> first | exact h | exact absurd h (hP _ _ _)) ?_
  (refine TD.val0 (v := ?v11) (by simp only [zA, zB, zC]; rfl) rfl ?hw11 (fun w1 => ?hy11) ?hn11; (case hw11 => rfl); (case hy11 => (go_simp; (try with_reducible rfl))); (try simp only [Act.put, zF, zG, zH]))
  (refine TD.val0 (v := ?v12) (by simp only [zA, zB, zC]; rfl) rfl ?hw12 (fun w1 => ?hy12) ?hn12; (case hw12 => rfl); (case hy12 => (go_simp; (try with_reducible rfl))); (try simp only [Act.put, zF, zG, zH]))
  (refine TD.val0 (v := ?v13) (by simp only [zA, zB, zC]; rfl) rfl ?hw13 (fun w1 => ?hy13) ?hn13; (case hw13 => rfl); (case hy13 => (go_simp; (try with_reducible rfl))); (try simp only [Act.put, zF, zG, zH]))
  (refine TD.val0 (v := ?v14) (by simp only [zA, zB, zC]; rfl) rfl ?hw14 (fun w1 => ?hy14) ?hn14; (case hw14 => rfl); (case hy14 => (go_simp; (try with_reducible rfl))); (try simp only [Act.put, zF, zG, zH]))
  (refine TD.load (v := ?v15) (p := ?p15) (Mod.refl _ _) (by simp only [zA, zB, zC]; rfl) rfl ?hw15 rfl ?hx15 (fun wq hSq => ?hy15) ?hn15; (case hw15 => rfl); (case hx15 => (simp only [Act.eval, zD, zA, zB, zC, zE]; (try rfl))); (case hy15 => (have kbq := hSq.at kb (fun h => h); have kp9q := hSq.at kp9 (fun h => h); go_simp; (try with_reducible rfl))); (try simp only [Act.put, zF, zG, zH]))
  (refine TD.load (v := ?v16) (p := ?p16) (Mod.refl _ _) (by simp only [zA, zB, zC]; rfl) rfl ?hw16 rfl ?hx16 (fun wq hSq => ?hy16) ?hn16; (case hw16 => rfl); (case hx16 => (simp only [Act.eval, zD, zA, zB, zC, zE]; (try rfl))); (case hy16 => (have kbq := hSq.at kb (fun h => h); have kp9q := hSq.at kp9 (fun h => h); go_simp; (try with_reducible rfl))); (try simp only [Act.put, zF, zG, zH]))
  (refine TD.call (f := ?f17) (args := ?r17) (Mod.refl _ _) (by simp only [zA, zB, zC]; rfl) rfl ?hw17 (fun w1 => ?hy17) ?hsp17 ?hn17; (case hw17 => rfl); (case hy17 => (go_simp; (first | with_reducible rfl | (constructor <;> with_reducible rfl)))); (case hsp17 => (intro wq hSq; have kbq := hSq.at kb (fun h => h); have kp9q := hSq.at kp9 (fun h => h); exact (sputN_c (HB3.out.mod0 hSq).sat HH.out.2.2.2.2.2.1 y).mono (fun e w' h => ⟨_, h.1, rfl, h.2⟩))); rintro _ rfl; (try simp only [Act.put, zF, zG, zH]))
  (refine TD.val0 (v := ?v18) (by simp only [zA, zB, zC]; rfl) rfl ?hw18 (fun w1 => ?hy18) ?hn18; (case hw18 => rfl); (case hy18 => (go_simp; (try with_reducible rfl))); (try simp only [Act.put, zF, zG, zH]))
  (refine TD.val0 (v := ?v19) (by simp only [zA, zB, zC]; rfl) rfl ?hw19 (fun w1 => ?hy19) ?hn19; (case hw19 => rfl); (case hy19 => (go_simp; (try with_reducible rfl))); (try simp only [Act.put, zF, zG, zH]))
  (refine TD.val0 (v := ?v20) (by simp only [zA, zB, zC]; rfl) rfl ?hw20 (fun w1 => ?hy20) ?hn20; (case hw20 => rfl); (case hy20 => (go_simp; (try with_reducible rfl))); (try simp only [Act.put, zF, zG, zH]))
  (refine TD.val0 (v := ?v21) (by simp only [zA, zB, zC]; rfl) rfl ?hw21 (fun w1 => ?hy21) ?hn21; (case hw21 => rfl); (case hy21 => (go_simp; (try with_reducible rfl))); (try simp only [Act.put, zF, zG, zH]))
  (refine TD.val0 (v := ?v22) (by simp only [zA, zB, zC]; rfl) rfl ?hw22 (fun w1 => ?hy22) ?hn22; (case hw22 => rfl); (case hy22 => (go_simp; (try with_reducible rfl))); (try simp only [Act.put, zF, zG, zH]))
  refine TD.nil (fun w4 hr => ?_)
  have kb := hr.mod.at kb (fun h => h)
  have kp9 := hr.mod.at kp9 (fun h => h)
  have m4 := m3.then0 hr.mod
  have n4 := hr.mod
  clear hr
  go_upto_region 6 with fail
  have Lkb := lt_size kb
  have Lkp9 := lt_size kp9
  refine wp_pass0 (C := fun _ _ v => v = .tuple #[.agg (rkc x'.rk), .int .i64 (i : Int), .bool true]) (κ := fun i => [0, 0, 0, 0, 1, 2, 0, 0, 0, 0, 3, 4, 0, 0].getD i 0) [0, 1, 2, 3, 4, 5, 6, 7, 8, 9, 10, 11, 12, 13] (by kernel_rfl) (by kernel_rfl) (fun _ _ d _ _ h => by cases d <;> first | exact h | exact absurd h (hP _ _ _)) ?_
  (refine TD.val0 (v := ?v23) (by simp only [zA, zB, zC]; rfl) rfl ?hw23 (fun w1 => ?hy23) ?hn23; (case hw23 => rfl); (case hy23 => (go_simp; (try with_reducible rfl))); (try simp only [Act.put, zF, zG, zH]))
  (refine TD.val0 (v := ?v24) (by simp only [zA, zB, zC]; rfl) rfl ?hw24 (fun w1 => ?hy24) ?hn24; (case hw24 => rfl); (case hy24 => (go_simp; (try with_reducible rfl))); (try simp only [Act.put, zF, zG, zH]))
  (refine TD.val0 (v := ?v25) (by simp only [zA, zB, zC]; rfl) rfl ?hw25 (fun w1 => ?hy25) ?hn25; (case hw25 => rfl); (case hy25 => (go_simp; (try with_reducible rfl))); (try simp only [Act.put, zF, zG, zH]))
  (refine TD.val0 (v := ?v26) (by simp only [zA, zB, zC]; rfl) rfl ?hw26 (fun w1 => ?hy26) ?hn26; (case hw26 => rfl); (case hy26 => (go_simp; (try with_reducible rfl))); (try simp only [Act.put, zF, zG, zH]))
  (refine TD.load (v := ?v27) (p := ?p27) (Mod.refl _ _) (by simp only [zA, zB, zC]; rfl) rfl ?hw27 rfl ?hx27 (fun wq hSq => ?hy27) ?hn27; (case hw27 => rfl); (case hx27 => (simp only [Act.eval, zD, zA, zB, zC, zE]; (try rfl))); (case hy27 => (have kbq := hSq.at kb (fun h => h); have kp9q := hSq.at kp9 (fun h => h); go_simp; (try with_reducible rfl))); (try simp only [Act.put, zF, zG, zH]))
  (refine TD.call (f := ?f28) (args := ?r28) (Mod.refl _ _) (by simp only [zA, zB, zC]; rfl) rfl ?hw28 (fun w1 => ?hy28) ?hsp28 ?hn28; (case hw28 => rfl); (case hy28 => (go_simp; (first | with_reducible rfl | (constructor <;> with_reducible rfl)))); (case hsp28 => (intro wq hSq; have kbq := hSq.at kb (fun h => h); have kp9q := hSq.at kp9 (fun h => h); exact (HBT.out wq (m4.then0 hSq)).mono (fun e w' h => ⟨_, h.1, rfl, h.2⟩))); rintro _ rfl; (try simp only [Act.put, zF, zG, zH]))
  (refine TD.val0 (v := ?v29) (by simp only [zA, zB, zC]; rfl) rfl ?hw29 (fun w1 => ?hy29) ?hn29; (case hw29 => rfl); (case hy29 => (go_simp; (try with_reducible rfl))); (try simp only [Act.put, zF, zG, zH]))
  (refine TD.val0 (v := ?v30) (by simp only [zA, zB, zC]; rfl) rfl ?hw30 (fun w1 => ?hy30) ?hn30; (case hw30 => rfl); (case hy30 => (go_simp; (try with_reducible rfl))); (try simp only [Act.put, zF, zG, zH]))
  (refine TD.val0 (v := ?v31) (by simp only [zA, zB, zC]; rfl) rfl ?hw31 (fun w1 => ?hy31) ?hn31; (case hw31 => rfl); (case hy31 => (go_simp; (try with_reducible rfl))); (try simp only [Act.put, zF, zG, zH]))
  (refine TD.val0 (v := ?v32) (by simp only [zA, zB, zC]; rfl) rfl ?hw32 (fun w1 => ?hy32) ?hn32; (case hw32 => rfl); (case hy32 => (go_simp; (try with_reducible rfl))); (try simp only [Act.put, zF, zG, zH]))
  (refine TD.allocB (by simp only [zA, zB, zC]; rfl) rfl ?hw33 rfl rfl alRk (fun p10 hp10 => ?hn33); (case hw33 => rfl); (try simp only [Act.put, zF, zG, zH]))
  (refine TD.storeB (d := ?d34) (T := ?T34) (y := ?y34) (p := ?p34) (b := ?b34) (v := ?v34) (by simp only [zA, zB, zC]; rfl) rfl ?hw34 ?hd34 ?hop34 ?hev34 ?hx34 ?hb34 ?htag34 (fun w1 hb1 => ?hy34) ?hn34; (case hw34 => rfl); (case hd34 => rfl); (case hop34 => rfl); (case hev34 => (simp only [Act.eval, zD, zA, zB, zC, zE]; (try rfl))); (case hx34 => (simp only [Act.eval, zD, zA, zB, zC, zE]; (try rfl))); (case hb34 => first | exact Bx.set_same _ _ _ | (simp only [Bx.set_same]; rfl)); (case hy34 => (go_simp; (try first | with_reducible rfl | (rw [setCell_blk hb1]; rfl)))); (try simp only [Act.put, zF, zG, zH]))
  (refine TD.val0 (v := ?v35) (by simp only [zA, zB, zC]; rfl) rfl ?hw35 (fun w1 => ?hy35) ?hn35; (case hw35 => rfl); (case hy35 => (go_simp; (try with_reducible rfl))); (try simp only [Act.put, zF, zG, zH]))
  (refine TD.val0 (v := ?v36) (by simp only [zA, zB, zC]; rfl) rfl ?hw36 (fun w1 => ?hy36) ?hn36; (case hw36 => rfl); (case hy36 => (go_simp; (try with_reducible rfl))); (try simp only [Act.put, zF, zG, zH]))
  refine TD.nil (fun w5 hr => ?_)
  have kb := hr.mod.at kb (fun h => h)
  have kp9 := hr.mod.at kp9 (fun h => h)
  have kp10 := hr.box p10 _ (by first | exact Bx.set_same _ _ _ | (simp only [Bx.set_same]; rfl)); dsimp only [Value.cells] at kp10; obtain ⟨gp10, kp10⟩ := kp10
  have m5 := m4.then0 hr.mod
  have n5 := n4.then0 hr.mod
  have gq10 : w.heap.size ≤ p10 := Nat.le_trans m4.size gp10
  clear hr
  have hyr : y.rk = ⟨x.prio, num⟩ := by
    rw [HZ.out.1]
    show (⟨z.prio, num⟩ : Rk) = _
    have : z.con.prio = x.con.prio := by rw [HZ.out.2.1]
    rw [show z.prio = x.prio from this]
  have HA := Lib.hid (show Ahead y.rk x'.rk = true by rw [hyr]; exact HH.out.2.2.2.2.2.2)
  clear hyr
  go_upto_region 7 with fail
  have Lkp9 := lt_size kp9
  have Lkp10 := lt_size kp10
  have Lkb := lt_size kb
  refine wp_gpass (T0 := fun _ => False) (K := fun _ _ => True) (κ := fun i => [0, 0, 0, 0, 6, 0, 6, 0, 0].getD i 0) (υ := fun i => [[], [], [], [], [], [], [], [], []].getD i []) [0, 1, 2, 3, 4, 5, 6, 7, 8] (by kernel_rfl) (by kernel_rfl) (Good.true).cl (trivial) (fun _ h => h.elim) ?_
  have gK := Good.true
  (refine TG.v0 (v := ?v37) (by simp only [zA, zB, zC]; rfl) rfl ?hw37 (fun w1 => ?hy37) ?hn37; (case hw37 => rfl); (case hy37 => (go_simp; (try with_reducible rfl))); (try simp only [Act.put, zF, zG, zH]))
  (refine TG.v0 (v := ?v38) (by simp only [zA, zB, zC]; rfl) rfl ?hw38 (fun w1 => ?hy38) ?hn38; (case hw38 => rfl); (case hy38 => (go_simp; (try with_reducible rfl))); (try simp only [Act.put, zF, zG, zH]))
  (refine TG.v0 (v := ?v39) (by simp only [zA, zB, zC]; rfl) rfl ?hw39 (fun w1 => ?hy39) ?hn39; (case hw39 => rfl); (case hy39 => (go_simp; (try with_reducible rfl))); (try simp only [Act.put, zF, zG, zH]))
  (refine TG.load (v := ?v40) (p := ?p40) (by simp only [zA, zB, zC]; rfl) rfl ?hw40 rfl ?hx40 (fun wq hSq => ?hy40) ?hn40; (case hw40 => rfl); (case hx40 => (simp only [Act.eval, zD, zA, zB, zC, zE]; (try rfl))); (case hy40 => (have kp9q := hSq.at kp9 (by intro hT; first | exact hT | exact absurd hT (by assumption) | omega | (simp only at hT; omega)); have kp10q := hSq.at kp10 (by intro hT; first | exact hT | exact absurd hT (by assumption) | omega | (simp only at hT; omega)); have kbq := hSq.at kb (by intro hT; first | exact hT | exact absurd hT (by assumption) | omega | (simp only at hT; omega)); go_simp; (try with_reducible rfl))); (try simp only [Act.put, zF, zG, zH]))
  (refine TG.callN (f := ?f41) (args := ?r41) (fun v => v = .agg (rkc y.rk)) gK (by simp only [zA, zB, zC]; rfl) rfl ?hw41 (fun w1 => ?hy41) (fun T wq kq ltq hSq ub => ?hsp41) ?hn41; (case hw41 => rfl); (case hy41 => (go_simp; (first | with_reducible rfl | (constructor <;> with_reducible rfl)))); (case hsp41 => (have kp9q := hSq.at kp9 (by intro hT; first | exact hT | exact absurd hT (by assumption) | omega | (simp only at hT; omega)); have kp10q := hSq.at kp10 (by intro hT; first | exact hT | exact absurd hT (by assumption) | omega | (simp only at hT; omega)); have kbq := hSq.at kb (by intro hT; first | exact hT | exact absurd hT (by assumption) | omega | (simp only at hT; omega)); exact (irank_c y wq).mono (fun e w' h => ⟨_, h.1, rfl, h.2⟩))); rintro v41 hC; subst hC; (try simp only [Act.put, zF, zG, zH]))
  (refine TG.load (v := ?v42) (p := ?p42) (by simp only [zA, zB, zC]; rfl) rfl ?hw42 rfl ?hx42 (fun wq hSq => ?hy42) ?hn42; (case hw42 => rfl); (case hx42 => (simp only [Act.eval, zD, zA, zB, zC, zE]; (try rfl))); (case hy42 => (have kp9q := hSq.at kp9 (by intro hT; first | exact hT | exact absurd hT (by assumption) | omega | (simp only at hT; omega)); have kp10q := hSq.at kp10 (by intro hT; first | exact hT | exact absurd hT (by assumption) | omega | (simp only at hT; omega)); have kbq := hSq.at kb (by intro hT; first | exact hT | exact absurd hT (by assumption) | omega | (simp only at hT; omega)); go_simp; (try with_reducible rfl))); (try simp only [Act.put, zF, zG, zH]))
  (refine TG.callN (f := ?f43) (args := ?r43) (fun v => v = .bool true) gK (by simp only [zA, zB, zC]; rfl) rfl ?hw43 (fun w1 => ?hy43) (fun T wq kq ltq hSq ub => ?hsp43) ?hn43; (case hw43 => rfl); (case hy43 => (go_simp; (first | with_reducible rfl | (constructor <;> with_reducible rfl)))); (case hsp43 => (have kp9q := hSq.at kp9 (by intro hT; first | exact hT | exact absurd hT (by assumption) | omega | (simp only at hT; omega)); have kp10q := hSq.at kp10 (by intro hT; first | exact hT | exact absurd hT (by assumption) | omega | (simp only at hT; omega)); have kbq := hSq.at kb (by intro hT; first | exact hT | exact absurd hT (by assumption) | omega | (simp only at hT; omega)); exact (aheadC y.rk x'.rk wq).mono (fun e w' h => by obtain ⟨v, h1, h2, h3⟩ := h; rw [HA.out] at h2; exact ⟨v, h1, h2, h3⟩))); rintro v43 hC; subst hC; (try simp only [Act.put, zF, zG, zH]))
  (refine TG.v0 (v := ?v44) (by simp only [zA, zB, zC]; rfl) rfl ?hw44 (fun w1 => ?hy44) ?hn44; (case hw44 => rfl); (case hy44 => (go_simp; (try with_reducible rfl))); (try simp only [Act.put, zF, zG, zH]))
  (refine TG.v0 (v := ?v45) (by simp only [zA, zB, zC]; rfl) rfl ?hw45 (fun w1 => ?hy45) ?hn45; (case hw45 => rfl); (case hy45 => (go_simp; (try with_reducible rfl))); (try simp only [Act.put, zF, zG, zH]))
  refine TG.nil (fun w6 ⟨TR, hr⟩ => ?_)
  have kp9 := hr.mod.at kp9 (by intro hT; first | exact hT | exact absurd hT (by assumption) | omega | (simp only at hT; omega))
  have kp10 := hr.mod.at kp10 (by intro hT; first | exact hT | exact absurd hT (by assumption) | omega | (simp only at hT; omega))
  have kb := hr.mod.at kb (by intro hT; first | exact hT | exact absurd hT (by assumption) | omega | (simp only at hT; omega))
  clear gK
  have m6 := m5.then0 hr.mod
  have n6 := n5.then0 hr.mod
  clear hr
  have hb53 := bsU64 x'.rk.n
  go_upto_region 9 with fail
  have Lkb := lt_size kb
  have Lkp9 := lt_size kp9
  have Lkp10 := lt_size kp10
  refine wp_pass0 (C := fun _ _ _ => False) (κ := fun i => [0, 1, 3, 0].getD i 0) [0, 1, 2, 3] (by kernel_rfl) (by kernel_rfl) (fun _ _ d _ _ h => by cases d <;> first | exact h | exact absurd h (hP _ _ _)) ?_
  (refine TD.val0 (v := ?v46) (by simp only [zA, zB, zC]; rfl) rfl ?hw46 (fun w1 => ?hy46) ?hn46; (case hw46 => rfl); (case hy46 => (go_simp; (try with_reducible rfl))); (try simp only [Act.put, zF, zG, zH]))
  (refine TD.load (v := ?v47) (p := ?p47) (Mod.refl _ _) (by simp only [zA, zB, zC]; rfl) rfl ?hw47 rfl ?hx47 (fun wq hSq => ?hy47) ?hn47; (case hw47 => rfl); (case hx47 => (simp only [Act.eval, zD, zA, zB, zC, zE]; (try rfl))); (case hy47 => (have kbq := hSq.at kb (fun h => h); have kp9q := hSq.at kp9 (fun h => h); have kp10q := hSq.at kp10 (fun h => h); go_simp; (try with_reducible rfl))); (try simp only [Act.put, zF, zG, zH]))
  (refine TD.bslice (by simp only [zA, zB, zC]; rfl) rfl ?hw48 rfl rfl ?hx48 hb53 (fun p53 hp53 => ?hn48); (case hw48 => rfl); (case hx48 => (simp only [List.map_toArray, List.map_cons, List.map_nil, Act.eval, zD, zA, zB, zC, zE]; (try rfl))); (try simp only [Act.put, zF, zG, zH]))
  (refine TD.val0 (v := ?v49) (by simp only [zA, zB, zC]; rfl) rfl ?hw49 (fun w1 => ?hy49) ?hn49; (case hw49 => rfl); (case hy49 => (go_simp; (try with_reducible rfl))); (try simp only [Act.put, zF, zG, zH]))
  refine TD.nil (fun w7 hr => ?_)
  have kb := hr.mod.at kb (fun h => h)
  have kp9 := hr.mod.at kp9 (fun h => h)
  have kp10 := hr.mod.at kp10 (fun h => h)
  have kp53 := hr.box p53 _ (by first | exact Bx.set_same _ _ _ | (simp only [Bx.set_same]; rfl)); dsimp only [Value.cells] at kp53; obtain ⟨gp53, kp53⟩ := kp53
  have m7 := m6.then0 hr.mod
  have n7 := n6.then0 hr.mod
  have gq53 : w.heap.size ≤ p53 := Nat.le_trans m6.size gp53
  clear hr hb53
  have hMb3 := bf_more (O := O) HH.out.1 HH.out.2.2.1 HH.out.2.2.2.1 HZ.out.2.2.2.2
  obtain ⟨Tq, hTq⟩ : ∃ Tq : Nat → Prop, Tq = (fun j => Tr j ∨ (w.heap.size ≤ j ∧ j < w3.heap.size)) := ⟨_, rfl⟩
  rw [← hTq] at hMb3
  have hMb : Bf w7 b s h R C Ts Th Tq ∧ (∀ j, Ts j ∨ Th j ∨ Tq j ∨ j = b → (O j ∨ w0.heap.size ≤ j) ∧ j < w7.heap.size) := ⟨hMb3.1.mod0 n7, fun j hj => by
    have h9 := hMb3.2 j (by rw [hTq] at hj; exact hj)
    exact ⟨h9.1, Nat.lt_of_lt_of_le h9.2 n7.size⟩⟩
  have hzq : RdIn Tq z := by rw [hTq]; exact HZ.out.2.2.1.inn.mono (fun i hi => .inr hi)
  have hq53 : ¬ Tq p53 := fun e => by rw [hTq] at e; have h3 := HZ.out.2.2.2.2.size; have h5 := n6.size; have h6 := gp53; rcases e with e | e; have := (HH.out.2.2.1 p53 (.inr (.inr (.inl e)))).2; omega; omega
  have hb53 : b ≠ p53 := fun e => by have := (HH.out.2.2.1 b (.inr (.inr (.inr rfl)))).2; omega
  have hlo : ∀ q, w.heap.size ≤ q → ¬ Ts q ∧ ¬ Th q := fun q hq => ⟨fun e => by have := (HH.out.2.2.1 q (.inl e)).2; omega, fun e => by have := (HH.out.2.2.1 q (.inr (.inl e))).2; omega⟩
  have H9 := hlo p9 gq9
  have H53 := hlo p53 gq53
  have HNE : Hid (¬ Ts 0 ∧ ¬ Th 0) := Lib.hid ⟨fun e => by have h1 := (hMb.2 0 (.inl e)).1; rcases h1 with h1 | h1; exact HY.out.2.2.2.2.2.1.2 h1; have := HY.out.2.2.2.2.2.1.1; omega, fun e => by have h1 := (hMb.2 0 (.inr (.inl e))).1; rcases h1 with h1 | h1; exact HY.out.2.2.2.2.2.1.2 h1; have := HY.out.2.2.2.2.2.1.1; omega⟩
  have HN := Lib.hid (And.intro H9 (And.intro H53 (And.intro m7 n7)))
  have HQ := Lib.hid (And.intro hzq (And.intro hq53 (And.intro hb53 hMb)))
  clear hzq hq53 hb53 hMb3 hTq
  clear hMb hlo H9 H53 m7 m6 m5 m4 m3 m1 n4 n5 n6 n7 kp10
  go_upto_region 10 with fail
  have Lkb := lt_size kb
  have Lkp9 := lt_size kp9
  have Lkp53 := lt_size kp53
  refine wp_pass0 (C := fun _ _ _ => False) (κ := fun i => [0, 0, 0, 0, 1, 0, 5].getD i 0) [0, 1, 2, 3, 4, 5, 6] (by kernel_rfl) (by kernel_rfl) (fun _ _ d _ _ h => by cases d <;> first | exact h | exact absurd h (hP _ _ _)) ?_
  (refine TD.val0 (v := ?v50) (by simp only [zA, zB, zC]; rfl) rfl ?hw50 (fun w1 => ?hy50) ?hn50; (case hw50 => rfl); (case hy50 => (go_simp; (try with_reducible rfl))); (try simp only [Act.put, zF, zG, zH]))
  (refine TD.val0 (v := ?v51) (by simp only [zA, zB, zC]; rfl) rfl ?hw51 (fun w1 => ?hy51) ?hn51; (case hw51 => rfl); (case hy51 => (go_simp; (try with_reducible rfl))); (try simp only [Act.put, zF, zG, zH]))
  (refine TD.val0 (v := ?v52) (by simp only [zA, zB, zC]; rfl) rfl ?hw52 (fun w1 => ?hy52) ?hn52; (case hw52 => rfl); (case hy52 => (go_simp; (try with_reducible rfl))); (try simp only [Act.put, zF, zG, zH]))
  (refine TD.val0 (v := ?v53) (by simp only [zA, zB, zC]; rfl) rfl ?hw53 (fun w1 => ?hy53) ?hn53; (case hw53 => rfl); (case hy53 => (go_simp; (try with_reducible rfl))); (try simp only [Act.put, zF, zG, zH]))
  (refine TD.load (v := ?v54) (p := ?p54) (Mod.refl _ _) (by simp only [zA, zB, zC]; rfl) rfl ?hw54 rfl ?hx54 (fun wq hSq => ?hy54) ?hn54; (case hw54 => rfl); (case hx54 => (simp only [Act.eval, zD, zA, zB, zC, zE]; (try rfl))); (case hy54 => (have kbq := hSq.at kb (fun h => h); have kp9q := hSq.at kp9 (fun h => h); have kp53q := hSq.at kp53 (fun h => h); go_simp; (try with_reducible rfl))); (try simp only [Act.put, zF, zG, zH]))
  (refine TD.val0 (v := ?v55) (by simp only [zA, zB, zC]; rfl) rfl ?hw55 (fun w1 => ?hy55) ?hn55; (case hw55 => rfl); (case hy55 => (go_simp; (try with_reducible rfl))); (try simp only [Act.put, zF, zG, zH]))
  refine TD.eff (by simp only [zA, zB, zC]; rfl) rfl (fun w8 hr => ?_)
  have kb := hr.mod.at kb (fun h => h)
  have kp9 := hr.mod.at kp9 (fun h => h)
  have kp53 := hr.mod.at kp53 (fun h => h)
  have m8 := hr.mod
  clear hr
  have hdrop8 := mi_drop (w0 := w0) (O := O) (i := i) (HQ.out.2.2.2.1.mod0 m8) HH.out.2.1 (fun j hj => ⟨(HQ.out.2.2.2.2 j hj).1, Nat.lt_of_lt_of_le (HQ.out.2.2.2.2 j hj).2 m8.size⟩) (HH.out.2.2.2.1.then0 (HN.out.2.2.1.then0 m8)) HY.out.1 HY.out.2.1
  (refine eff_callP (by simp only [zA, zB, zC]; rfl) ?hw57 ?hy57 hdrop8 (fun wn hP => ?hn57); (case hw57 => rfl); (case hy57 => (go_simp; (try (first | with_reducible rfl | (constructor <;> with_reducible rfl))))); (try simp only [Act.put, zF, zG, zH]))
  refine TE.nil ?_
  obtain ⟨C1, hM9, m9⟩ := hP
  have kb := hM9.bf.kb
  have kp9 := m9.at kp9 HN.out.1.2
  have kp53 := m9.at kp53 HN.out.2.1.2
  have hn8 : RdNew w.heap.size w8 z := HZ.out.2.2.1.mod0 (HN.out.2.2.2.then0 m8)
  have hzq := HQ.out.1
  have hlo : ∀ q, w.heap.size ≤ q → ¬ Ts q ∧ ¬ Th q := fun q hq => ⟨fun e => by have := (HH.out.2.2.1 q (.inl e)).2; omega, fun e => by have := (HH.out.2.2.1 q (.inr (.inl e))).2; omega⟩
  have HLO := Lib.hid hlo
  have HR9 := Lib.hid (And.intro (hn8.mod m9 hn8.inn (fun i hi => (hlo i hi.1).2)) (And.intro hzq (((HY.out.2.2.2.2.2.2.mod0 HN.out.2.2.1).mod0 m8).mod m9 HNE.out.2)))
  have HM9 := Lib.hid hM9
  clear hdrop8 hM9 m9 m8 hn8 hzq hlo
  go_upto_region 11 with fail
  have Lkb := lt_size kb
  have Lkp9 := lt_size kp9
  have Lkp53 := lt_size kp53
  refine wp_pass0 (C := fun _ _ _ => False) (κ := fun i => [0, 0, 0, 0, 1, 0, 5].getD i 0) [0, 1, 2, 3, 4, 5, 6] (by kernel_rfl) (by kernel_rfl) (fun _ _ d _ _ h => by cases d <;> first | exact h | exact absurd h (hP _ _ _)) ?_
  (refine TD.val0 (v := ?v58) (by simp only [zA, zB, zC]; rfl) rfl ?hw58 (fun w1 => ?hy58) ?hn58; (case hw58 => rfl); (case hy58 => (go_simp; (try with_reducible rfl))); (try simp only [Act.put, zF, zG, zH]))
  (refine TD.val0 (v := ?v59) (by simp only [zA, zB, zC]; rfl) rfl ?hw59 (fun w1 => ?hy59) ?hn59; (case hw59 => rfl); (case hy59 => (go_simp; (try with_reducible rfl))); (try simp only [Act.put, zF, zG, zH]))
  (refine TD.val0 (v := ?v60) (by simp only [zA, zB, zC]; rfl) rfl ?hw60 (fun w1 => ?hy60) ?hn60; (case hw60 => rfl); (case hy60 => (go_simp; (try with_reducible rfl))); (try simp only [Act.put, zF, zG, zH]))
  (refine TD.val0 (v := ?v61) (by simp only [zA, zB, zC]; rfl) rfl ?hw61 (fun w1 => ?hy61) ?hn61; (case hw61 => rfl); (case hy61 => (go_simp; (try with_reducible rfl))); (try simp only [Act.put, zF, zG, zH]))
  (refine TD.load (v := ?v62) (p := ?p62) (Mod.refl _ _) (by simp only [zA, zB, zC]; rfl) rfl ?hw62 rfl ?hx62 (fun wq hSq => ?hy62) ?hn62; (case hw62 => rfl); (case hx62 => (simp only [Act.eval, zD, zA, zB, zC, zE]; (try rfl))); (case hy62 => (have kbq := hSq.at kb (fun h => h); have kp9q := hSq.at kp9 (fun h => h); have kp53q := hSq.at kp53 (fun h => h); go_simp; (try with_reducible rfl))); (try simp only [Act.put, zF, zG, zH]))
  (refine TD.val0 (v := ?v63) (by simp only [zA, zB, zC]; rfl) rfl ?hw63 (fun w1 => ?hy63) ?hn63; (case hw63 => rfl); (case hy63 => (go_simp; (try with_reducible rfl))); (try simp only [Act.put, zF, zG, zH]))
  refine TD.eff (by simp only [zA, zB, zC]; rfl) rfl (fun w10 hr => ?_)
  have kb := hr.mod.at kb (fun h => h)
  have kp9 := hr.mod.at kp9 (fun h => h)
  have kp53 := hr.mod.at kp53 (fun h => h)
  have m10 := hr.mod
  clear hr
  have hfree := mi_free (HM9.out.mod0 m10) HY.out.1
  (refine eff_callP (by simp only [zA, zB, zC]; rfl) ?hw65 ?hy65 hfree (fun wn hP => ?hn65); (case hw65 => rfl); (case hy65 => (go_simp; (try (first | with_reducible rfl | (constructor <;> with_reducible rfl))))); (try simp only [Act.put, zF, zG, zH]))
  refine TE.nil ?_
  obtain ⟨hM11, m11⟩ := hP
  have kb := hM11.bf.kb
  have kp9 := m11.at kp9 HN.out.1.1
  have kp53 := m11.at kp53 HN.out.2.1.1
  have hn10 := HR9.out.1.mod0 m10
  have HR11 := Lib.hid (And.intro (hn10.mod m11 hn10.inn (fun i hi => (HLO.out i hi.1).1)) (And.intro HR9.out.2.1 ((HR9.out.2.2.mod0 m10).mod m11 HNE.out.1)))
  have HM11 := Lib.hid hM11
  clear hfree hM11 m11 m10 hn10
  go_upto_region 12 with fail
  have Lkb := lt_size kb
  have Lkp9 := lt_size kp9
  have Lkp53 := lt_size kp53
  refine wp_pass (C := fun _ _ _ => False) (κ := fun i => [0, 0, 0, 0, 1, 1, 5, 0, 0, 0, 0, 0].getD i 0) [0, 1, 2, 3, 4, 5, 6, 7, 8, 9, 10, 11] (by kernel_rfl) (by kernel_rfl) (fun _ _ d _ _ h => by cases d <;> first | exact h | exact absurd h (hP _ _ _)) ?_
  (refine TD.val0 (v := ?v66) (by simp only [zA, zB, zC]; rfl) rfl ?hw66 (fun w1 => ?hy66) ?hn66; (case hw66 => rfl); (case hy66 => (go_simp; (try with_reducible rfl))); (try simp only [Act.put, zF, zG, zH]))
  (refine TD.val0 (v := ?v67) (by simp only [zA, zB, zC]; rfl) rfl ?hw67 (fun w1 => ?hy67) ?hn67; (case hw67 => rfl); (case hy67 => (go_simp; (try with_reducible rfl))); (try simp only [Act.put, zF, zG, zH]))
  (refine TD.val0 (v := ?v68) (by simp only [zA, zB, zC]; rfl) rfl ?hw68 (fun w1 => ?hy68) ?hn68; (case hw68 => rfl); (case hy68 => (go_simp; (try with_reducible rfl))); (try simp only [Act.put, zF, zG, zH]))
  (refine TD.val0 (v := ?v69) (by simp only [zA, zB, zC]; rfl) rfl ?hw69 (fun w1 => ?hy69) ?hn69; (case hw69 => rfl); (case hy69 => (go_simp; (try with_reducible rfl))); (try simp only [Act.put, zF, zG, zH]))
  (refine TD.load (v := ?v70) (p := ?p70) (Mod.refl _ _) (by simp only [zA, zB, zC]; rfl) rfl ?hw70 rfl ?hx70 (fun wq hSq => ?hy70) ?hn70; (case hw70 => rfl); (case hx70 => (simp only [Act.eval, zD, zA, zB, zC, zE]; (try rfl))); (case hy70 => (have kbq := hSq.at kb (fun h => h); have kp9q := hSq.at kp9 (fun h => h); have kp53q := hSq.at kp53 (fun h => h); go_simp; (try with_reducible rfl))); (try simp only [Act.put, zF, zG, zH]))
  (refine TD.load (v := ?v71) (p := ?p71) (Mod.refl _ _) (by simp only [zA, zB, zC]; rfl) rfl ?hw71 rfl ?hx71 (fun wq hSq => ?hy71) ?hn71; (case hw71 => rfl); (case hx71 => (simp only [Act.eval, zD, zA, zB, zC, zE]; (try rfl))); (case hy71 => (have kbq := hSq.at kb (fun h => h); have kp9q := hSq.at kp9 (fun h => h); have kp53q := hSq.at kp53 (fun h => h); go_simp; (try with_reducible rfl))); (try simp only [Act.put, zF, zG, zH]))
  refine TD.eff (by simp only [zA, zB, zC]; rfl) rfl (fun w12 hr => ?_)
  have kb := hr.mod.at kb (fun h => h)
  have kp9 := hr.mod.at kp9 (fun h => h)
  have kp53 := hr.mod.at kp53 (fun h => h)
  have m12 := hr.mod
  clear hr
  have hput := mi_put (y := y) (HM11.out.mod0 m12) (HR11.out.2.2.mod0 m12) HY.out.2.2.1 (by rw [HZ.out.1]; exact (HR11.out.1.mod0 m12).ok) (by rw [HZ.out.1]; exact HR11.out.2.1) (by rw [HZ.out.1]; show RdSm z.con; rw [HZ.out.2.1]; exact HX.out.2)
  (refine eff_callP (by simp only [zA, zB, zC]; rfl) ?hw73 ?hy73 hput (fun wn hP => ?hn73); (case hw73 => rfl); (case hy73 => (go_simp; (try (first | with_reducible rfl | (constructor <;> with_reducible rfl))))); (try simp only [Act.put, zF, zG, zH]))
  (refine TE.val0 (v := ?v74) (by simp only [zA, zB, zC]; rfl) ?hw74 (fun w1 => ?hy74) ?hn74; (case hw74 => rfl); (case hy74 => (go_simp; (try with_reducible rfl))); (try simp only [Act.put, zF, zG, zH]))
  (refine TE.val0 (v := ?v75) (by simp only [zA, zB, zC]; rfl) ?hw75 (fun w1 => ?hy75) ?hn75; (case hw75 => rfl); (case hy75 => (go_simp; (try with_reducible rfl))); (try simp only [Act.put, zF, zG, zH]))
  (refine TE.val0 (v := ?v76) (by simp only [zA, zB, zC]; rfl) ?hw76 (fun w1 => ?hy76) ?hn76; (case hw76 => rfl); (case hy76 => (go_simp; (try with_reducible rfl))); (try simp only [Act.put, zF, zG, zH]))
  (refine TE.val0 (v := ?v77) (by simp only [zA, zB, zC]; rfl) ?hw77 (fun w1 => ?hy77) ?hn77; (case hw77 => rfl); (case hy77 => (go_simp; (try with_reducible rfl))); (try simp only [Act.put, zF, zG, zH]))
  (refine TE.val0 (v := ?v78) (by simp only [zA, zB, zC]; rfl) ?hw78 (fun w1 => ?hy78) ?hn78; (case hw78 => rfl); (case hy78 => (go_simp; (try with_reducible rfl))); (try simp only [Act.put, zF, zG, zH]))
  refine TE.nil ?_
  obtain ⟨hM13, m13⟩ := hP
  have kb := hM13.bf.kb
  have kp9 := m13.at kp9 HN.out.1.1
  have kp53 := m13.at kp53 HN.out.2.1.1
  have HM13 := Lib.hid hM13
  clear hput hM13 m13 m12
  go_upto_region 13 with fail
  have Lkb := lt_size kb
  have Lkp9 := lt_size kp9
  have Lkp53 := lt_size kp53
  refine wp_pass (C := fun _ _ v => v = .agg (rkc y.rk)) (κ := fun i => [0, 0, 0, 0, 1, 1, 2, 0, 5].getD i 0) [0, 1, 2, 3, 4, 5, 6, 7, 8] (by kernel_rfl) (by kernel_rfl) (fun _ _ d _ _ h => by cases d <;> first | exact h | exact absurd h (hP _ _ _)) ?_
  (refine TD.val0 (v := ?v79) (by simp only [zA, zB, zC]; rfl) rfl ?hw79 (fun w1 => ?hy79) ?hn79; (case hw79 => rfl); (case hy79 => (go_simp; (try with_reducible rfl))); (try simp only [Act.put, zF, zG, zH]))
  (refine TD.val0 (v := ?v80) (by simp only [zA, zB, zC]; rfl) rfl ?hw80 (fun w1 => ?hy80) ?hn80; (case hw80 => rfl); (case hy80 => (go_simp; (try with_reducible rfl))); (try simp only [Act.put, zF, zG, zH]))
  (refine TD.val0 (v := ?v81) (by simp only [zA, zB, zC]; rfl) rfl ?hw81 (fun w1 => ?hy81) ?hn81; (case hw81 => rfl); (case hy81 => (go_simp; (try with_reducible rfl))); (try simp only [Act.put, zF, zG, zH]))
  (refine TD.val0 (v := ?v82) (by simp only [zA, zB, zC]; rfl) rfl ?hw82 (fun w1 => ?hy82) ?hn82; (case hw82 => rfl); (case hy82 => (go_simp; (try with_reducible rfl))); (try simp only [Act.put, zF, zG, zH]))
  (refine TD.load (v := ?v83) (p := ?p83) (Mod.refl _ _) (by simp only [zA, zB, zC]; rfl) rfl ?hw83 rfl ?hx83 (fun wq hSq => ?hy83) ?hn83; (case hw83 => rfl); (case hx83 => (simp only [Act.eval, zD, zA, zB, zC, zE]; (try rfl))); (case hy83 => (have kbq := hSq.at kb (fun h => h); have kp9q := hSq.at kp9 (fun h => h); have kp53q := hSq.at kp53 (fun h => h); go_simp; (try with_reducible rfl))); (try simp only [Act.put, zF, zG, zH]))
  (refine TD.load (v := ?v84) (p := ?p84) (Mod.refl _ _) (by simp only [zA, zB, zC]; rfl) rfl ?hw84 rfl ?hx84 (fun wq hSq => ?hy84) ?hn84; (case hw84 => rfl); (case hx84 => (simp only [Act.eval, zD, zA, zB, zC, zE]; (try rfl))); (case hy84 => (have kbq := hSq.at kb (fun h => h); have kp9q := hSq.at kp9 (fun h => h); have kp53q := hSq.at kp53 (fun h => h); go_simp; (try with_reducible rfl))); (try simp only [Act.put, zF, zG, zH]))
  (refine TD.call (f := ?f85) (args := ?r85) (Mod.refl _ _) (by simp only [zA, zB, zC]; rfl) rfl ?hw85 (fun w1 => ?hy85) ?hsp85 ?hn85; (case hw85 => rfl); (case hy85 => (go_simp; (first | with_reducible rfl | (constructor <;> with_reducible rfl)))); (case hsp85 => (intro wq hSq; have kbq := hSq.at kb (fun h => h); have kp9q := hSq.at kp9 (fun h => h); have kp53q := hSq.at kp53 (fun h => h); exact (irank_c y wq).mono (fun e w' h => ⟨_, h.1, rfl, h.2⟩))); rintro _ rfl; (try simp only [Act.put, zF, zG, zH]))
  (refine TD.val0 (v := ?v86) (by simp only [zA, zB, zC]; rfl) rfl ?hw86 (fun w1 => ?hy86) ?hn86; (case hw86 => rfl); (case hy86 => (go_simp; (try with_reducible rfl))); (try simp only [Act.put, zF, zG, zH]))
  refine TD.eff (by simp only [zA, zB, zC]; rfl) rfl (fun w14 hr => ?_)
  have kb := hr.mod.at kb (fun h => h)
  have kp9 := hr.mod.at kp9 (fun h => h)
  have kp53 := hr.mod.at kp53 (fun h => h)
  have m14 := hr.mod
  clear hr
  have hpush := mi_push (y := y) (HM13.out.mod0 m14) (List.getElem?_set_self (by rw [List.length_set]; exact HY.out.2.2.2.1)) (by rw [HZ.out.1])
  have hE : conS ((R.set i none).set i (some y)) = (conS R).set i (some ⟨num, x.con, 0, false⟩) := by
    rw [con_set, con_setN, List.set_set, HZ.out.1, ← HZ.out.2.1]
    rfl
  rw [hE] at hpush
  have hlt14 := lt_size kp53
  (refine eff_callP (by simp only [zA, zB, zC]; rfl) ?hw88 ?hy88 hpush (fun wn hP => ?hn88); (case hw88 => rfl); (case hy88 => (go_simp; (try (first | with_reducible rfl | (constructor <;> with_reducible rfl))))); (try simp only [Act.put, zF, zG, zH]))
  refine TE.nil ?_
  have kp53 := hP.2.at kp53 HN.out.2.1.2
  have HLT := Lib.hid hlt14
  clear hlt14
  have HF := Lib.hid hP
  clear hP hpush hE
  go_wp2_with fail
  refine bodyPost_ret (results_tmp3 rfl _ _ _) rfl ⟨_, rfl, .inr ⟨p53, nc x'.rk.n, rfl, gq53, kp53, fun j n hj => ?_⟩, HF.out.1.choose, HF.out.1.choose_spec.1, fun g hg e => ?_⟩
  rotate_left
  · have hg2 : p53 = g := Option.some.inj hg
    subst hg2
    rcases HF.out.1.choose_spec.2 _ e with (h | h | h | h) | h
    · exact HN.out.2.1.1 h
    · exact HN.out.2.1.2 h
    · exact HQ.out.2.1 h
    · exact HQ.out.2.2.1 h.symm
    · have := HLT.out; omega
  match j, hj with
  | 0, hj => cases hj; exact ⟨rfl, Nat.le_refl 1⟩
end
end Go.Proofs.YtdeghpmlhcaedaaDoor
