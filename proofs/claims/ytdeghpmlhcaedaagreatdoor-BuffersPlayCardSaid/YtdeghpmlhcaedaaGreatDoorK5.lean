/- The lemmas of the proof, part 5: how the program and its data lie in memory, and what its functions do. -/
import Derived.Test.YtdeghpmlhcaedaaGreatDoorK4
import Derived.OwnWalk
import Derived.Laws.CopyRow
set_option linter.unusedSimpArgs false
set_option linter.unusedVariables false
set_option linter.unusedSectionVars false
namespace Go.Proofs.YtdeghpmlhcaedaaGreatDoor
open Go.RowKit
open Go.ChangeMaps (setBlock)
def BHo (w0 : World) (O : Nat → Prop) (b : Nat) (S : List (Option It)) (T : Nat → Prop) (ws : World) : Prop := ∃ s h R C Ts Th Tr, Bf ws b s h R C Ts Th Tr ∧ S = conS R ∧ C.Perm (wtg 0 S) ∧ (∀ i, (Ts i ∨ Th i ∨ Tr i ∨ i = b) ↔ T i) ∧ (∀ i, T i → (O i ∨ w0.heap.size ≤ i) ∧ i < ws.heap.size) ∧ Mod O w0 ws
theorem BHo.bh {w0 ws : World} {O T : Nat → Prop} {b : Nat} {S : List (Option It)} (H : BHo w0 O b S T ws) : BH w0 O b S ws := by
 obtain ⟨s, h, R, C, Ts, Th, Tr, HB, hS, hp, hE, hT, m⟩ := H
 exact ⟨s, h, R, C, Ts, Th, Tr, HB, hS, hp, fun i hi => hT i ((hE i).1 hi), m⟩
theorem BH.o {w0 ws : World} {O : Nat → Prop} {b : Nat} {S : List (Option It)} (H : BH w0 O b S ws) : ∃ T, BHo w0 O b S T ws := by
 obtain ⟨s, h, R, C, Ts, Th, Tr, HB, hS, hp, hT, m⟩ := H
 exact ⟨fun i => Ts i ∨ Th i ∨ Tr i ∨ i = b, s, h, R, C, Ts, Th, Tr, HB, hS, hp, fun i => Iff.rfl, hT, m⟩
def BO (b : Nat) (S : List (Option It)) (T : Nat → Prop) (w : World) : Prop := BHo w T b S T w ∧ ¬ T 0 ∧ 0 < w.heap.size
theorem BO.bh {w : World} {T : Nat → Prop} {b : Nat} {S : List (Option It)} (H : BO b S T w) : BH w T b S w := H.1.bh
theorem BO.h0 {w : World} {T : Nat → Prop} {b : Nat} {S : List (Option It)} (H : BO b S T w) : 0 < w.heap.size ∧ ¬ T 0 := ⟨H.2.2, H.2.1⟩
theorem BO.lt {w : World} {T : Nat → Prop} {b : Nat} {S : List (Option It)} (H : BO b S T w) : ∀ i, T i → i < w.heap.size := by
 obtain ⟨⟨s, h, R, C, Ts, Th, Tr, HB, hS, hp, hE, hT, m⟩, _⟩ := H
 exact fun i hi => (hT i hi).2
theorem BO.modT {w w' : World} {T X : Nat → Prop} {b : Nat} {S : List (Option It)} (H : BO b S T w) (hm : Mod X w w') (hX : ∀ i, T i → ¬ X i) : BO b S T w' := by
 obtain ⟨⟨s, h, R, C, Ts, Th, Tr, HB, hS, hp, hE, hT, m⟩, h1, h2⟩ := H
 have hn : ∀ {Y : Nat → Prop}, (∀ i, Y i → Ts i ∨ Th i ∨ Tr i ∨ i = b) → Mod (fun i => ¬ Y i) w w' := fun hY => hm.mono (fun i _ e k => hX i ((hE i).1 (hY i k)) e)
 refine ⟨⟨s, h, R, C, Ts, Th, Tr, ⟨hm.at HB.kb (fun e => hX b ((hE b).1 (.inr (.inr (.inr rfl)))) e), (SAt.good s R).cl Ts w w' HB.sat (hn (fun i h => .inl h)), (HAt.good h C).cl Th w w' HB.hat (hn (fun i h => .inr (.inl h))), fun i y hy => ⟨(HB.rd i y hy).1.mod (hn (Y := Tr) (fun i h => .inr (.inr (.inl h)))) (HB.rd i y hy).2.1 (fun j hj e => e hj), (HB.rd i y hy).2⟩, HB.dsh, HB.drs, HB.drh, HB.db⟩, hS, hp, hE, fun i hi => ⟨.inl hi, Nat.lt_of_lt_of_le (hT i hi).2 hm.size⟩, Mod.refl _ _⟩, h1, Nat.lt_of_lt_of_le h2 hm.size⟩
theorem BO.mod0 {w w' : World} {T : Nat → Prop} {b : Nat} {S : List (Option It)} (H : BO b S T w) (hm : Mod (fun _ => False) w w') : BO b S T w' := H.modT hm (fun _ _ h => h)
theorem BHo.bo {w w' : World} {T T' : Nat → Prop} {b : Nat} {S : List (Option It)} (H : BHo w T b S T' w') (h0 : 0 < w.heap.size ∧ ¬ T 0) : BO b S T' w' ∧ Mod T w w' ∧ ∀ i, T' i → T i ∨ w.heap.size ≤ i := by
 obtain ⟨s, h, R, C, Ts, Th, Tr, HB, hS, hp, hE, hT, m⟩ := H
 refine ⟨⟨⟨s, h, R, C, Ts, Th, Tr, HB, hS, hp, hE, fun i hi => ⟨.inl hi, (hT i hi).2⟩, Mod.refl _ _⟩, fun e => ?_, Nat.lt_of_lt_of_le h0.1 m.size⟩, m, fun i hi => (hT i hi).1⟩
 rcases (hT 0 e).1 with h | h
 ·exact h0.2 h
 ·have := h0.1; omega
theorem BO.then {w w' : World} {T : Nat → Prop} {b : Nat} {S S' : List (Option It)} (H : BO b S T w) (H' : BH w T b S' w') : ∃ T', BO b S' T' w' ∧ Mod T w w' ∧ ∀ i, T' i → T i ∨ w.heap.size ≤ i := by
 obtain ⟨T', H2⟩ := H'.o
 exact ⟨T', H2.bo H.h0⟩
structure Mi (w0 : World) (O : Nat → Prop) (b i : Nat) (R : List (Option ItR)) (s h : Nat) (C : List Nd) (Ts Th Tr : Nat → Prop) (w : World) : Prop where
 bf : Bf w b s h R C Ts Th Tr
 perm : C.Perm (wtgo i (conS R))
 lt : ∀ j, Ts j ∨ Th j ∨ Tr j ∨ j = b → (O j ∨ w0.heap.size ≤ j) ∧ j < w.heap.size
 m : Mod O w0 w
def FreeS {α : Type} (S : List (Option α)) (n : Nat) : Prop := S[n]? = some none ∧ ∀ i, i < n → ∃ y, S[i]? = some (some y)
theorem FreeS.uniq {α : Type} {S : List (Option α)} {n m : Nat} (h : FreeS S n) (k : FreeS S m) : n = m := by
 rcases Nat.lt_trichotomy n m with hl | hl | hl
 ·obtain ⟨y, hy⟩ := k.2 n hl
  rw [h.1] at hy
  cases hy
 ·exact hl
 ·obtain ⟨y, hy⟩ := h.2 m hl
  rw [k.1] at hy
  cases hy
theorem FreeAt.s {R : List (Option ItR)} {n : Nat} (h : FreeAt R n) : FreeS (conS R) n := by
 refine ⟨?_, fun i hi => ?_⟩
 ·unfold conS
  rw [List.getElem?_map, h.1]
  rfl
 ·have ho := h.2 i hi
  have hlt := (List.getElem?_eq_some_iff.1 h.1).1
  have hi2 : i < R.length := by omega
  have he := List.getElem?_eq_getElem hi2
  cases hc : R[i] with
  | none =>
   rw [hc] at he
   have := occ_none he
   rw [ho] at this
   cases this
  | some y =>
   rw [hc] at he
   exact ⟨y.con, by unfold conS; rw [List.getElem?_map, he]; rfl⟩
theorem FreeS.room {R : List (Option ItR)} {n : Nat} (h : FreeS (conS R) n) : R.countP Option.isSome ≠ R.length := by
 intro e
 have h1 := List.countP_eq_length.1 e none (List.mem_of_getElem? (con_none h.1))
 cases h1
theorem set_at {α : Type} {l : List α} {i : Nat} {x : α} (h : l[i]? = some x) : l.set i x = l := by
 apply List.ext_getElem?
 intro j
 by_cases hj : j = i
 ·subst hj
  rw [List.getElem?_set_self (List.getElem?_eq_some_iff.1 h).1, h]
 ·rw [List.getElem?_set_ne (fun e => hj e.symm)]
section
variable {w0 w w' : World} {O : Nat → Prop} {b i s h : Nat} {R : List (Option ItR)} {C : List Nd} {Ts Th Tr : Nat → Prop}
theorem Mi.mod0 (M : Mi w0 O b i R s h C Ts Th Tr w) (hm : Mod (fun _ => False) w w') : Mi w0 O b i R s h C Ts Th Tr w' :=
 ⟨M.bf.mod0 hm, M.perm, fun j hj => ⟨(M.lt j hj).1, Nat.lt_of_lt_of_le (M.lt j hj).2 hm.size⟩, M.m.then0 hm⟩
theorem Mi.small (M : Mi w0 O b i R s h C Ts Th Tr w) : C.length ≤ 700000 := by
 have h1 := M.perm.length_eq
 have h2 := wtgo_len (i := i) (S := conS R)
 rw [conS_len] at h2
 have := M.bf.sat.len.2
 omega
theorem Mi.ids (M : Mi w0 O b i R s h C Ts Th Tr w) (hi : i < R.length) : ∀ z ∈ C, z.id ≠ idn i := fun z hz => by
 have := M.bf.sat.len.2
 exact wtgo_id (by rw [conS_len]; omega) (M.perm.mem_iff.1 hz) (by rw [conS_len]; exact hi)
theorem bf_more {wx : World} (HB : Bf w b s h R C Ts Th Tr) (hT : ∀ j, Ts j ∨ Th j ∨ Tr j ∨ j = b → (O j ∨ w0.heap.size ≤ j) ∧ j < w.heap.size) (m : Mod O w0 w) (hm : Mod (fun _ => False) w wx) :
  Bf wx b s h R C Ts Th (fun j => Tr j ∨ (w.heap.size ≤ j ∧ j < wx.heap.size)) ∧ (∀ j, Ts j ∨ Th j ∨ (Tr j ∨ (w.heap.size ≤ j ∧ j < wx.heap.size)) ∨ j = b → (O j ∨ w0.heap.size ≤ j) ∧ j < wx.heap.size) := by
 have hsz := hm.size
 have h0 := m.size
 refine ⟨(HB.mod0 hm).more (fun i h => .inl h) (fun i hi e => ?_) (fun i hi e => ?_) (fun hi => ?_), fun j hj => ?_⟩
 ·rcases hi with hi | hi
  ·exact HB.drs i hi e
  ·have := (hT i (.inl e)).2; omega
 ·rcases hi with hi | hi
  ·exact HB.drh i hi e
  ·have := (hT i (.inr (.inl e))).2; omega
 ·rcases hi with hi | hi
  ·exact HB.db.2.2 hi
  ·have := (hT b (.inr (.inr (.inr rfl)))).2; omega
 ·rcases hj with hj | hj | (hj | hj) | hj
  ·have := hT j (.inl hj); exact ⟨this.1, by omega⟩
  ·have := hT j (.inr (.inl hj)); exact ⟨this.1, by omega⟩
  ·have := hT j (.inr (.inr (.inl hj))); exact ⟨this.1, by omega⟩
  ·exact ⟨.inr (by omega), hj.2⟩
  ·have := hT j (.inr (.inr (.inr hj))); exact ⟨this.1, by omega⟩
theorem mi_drop (HB : Bf w b s h R C Ts Th Tr) (hperm : C.Perm (wtg 0 (conS R))) (hT : ∀ j, Ts j ∨ Th j ∨ Tr j ∨ j = b → (O j ∨ w0.heap.size ≤ j) ∧ j < w.heap.size) (m : Mod O w0 w) {y : ItR} (hy : R[i]? = some (some y)) (hp : y.pl = 0) :
  Calls Tryz.prog 41 #[ptrV h, .int .i64 (i : Int)] w fun e w' => e = .returned (.tuple #[.agg (rkc y.rk), .int .i64 0]) ∧ ∃ C1, Mi w0 O b i R s h C1 Ts Th Tr w' ∧ Mod Th w w' := by
 have hlen := HB.sat.len.2
 have hil : i < R.length := (List.getElem?_eq_some_iff.1 hy).1
 have hidn : (idn i).toInt = (i : Int) := idn_toInt (by omega)
 have hx : (conS R)[i]? = some (some y.con) := by unfold conS; rw [List.getElem?_map, hy]; rfl
 have hpl : y.con.pl = 0 := by show y.pl.toNat = 0; rw [hp]; rfl
 have hnm := node_mem hperm hx hpl
 have hC : C.length ≤ 700000 := by
  rw [hperm.length_eq]
  have := wtg_len (S := conS R) (k := 0)
  rw [conS_len] at this
  omega
 have hc := dropH_c HB.hat (fun j hj => (hT j (.inr (.inl hj))).2) (idn i) hC ⟨_, hnm, rfl⟩
 rw [hidn] at hc
 refine hc.mono ?_
 rintro e w' ⟨⟨z, hz, hzi, he⟩, hA, hm⟩
 have hzr : z.r = y.rk := by
  have hnd : (C.map Nd.id).Nodup := HB.hat.ids
  obtain ⟨a, ha⟩ := List.mem_iff_getElem?.1 hz
  obtain ⟨c, hcc⟩ := List.mem_iff_getElem?.1 hnm
  have e1 : (C.map Nd.id)[a]? = some (idn i) := by rw [List.getElem?_map, ha]; simp [hzi]
  have e2 : (C.map Nd.id)[c]? = some (idn i) := by rw [List.getElem?_map, hcc]; rfl
  have := (List.getElem?_inj (List.getElem?_eq_some_iff.1 e1).1 hnd).1 (e1.trans e2.symm)
  subst this
  rw [ha] at hcc
  cases hcc
  rfl
 rw [hzr] at he
 exact ⟨he, _, ⟨HB.stepH (fun j hj => (hT j (by rcases hj with hj | hj | hj; exact .inl hj; exact .inr (.inr (.inl hj)); exact .inr (.inr (.inr hj)))).2) hA hm (fun j hj => .inl hj), drop_perm (by rw [conS_len]; omega) hperm hx hpl, fun j hj => ⟨(hT j hj).1, Nat.lt_of_lt_of_le (hT j hj).2 hm.size⟩, m.then hm (fun j hj e => (hT j (.inr (.inl e))).1.resolve_right (by omega))⟩, hm⟩
theorem mi_free (M : Mi w0 O b i R s h C Ts Th Tr w) {y : ItR} (hy : R[i]? = some (some y)) : Calls Tryz.prog 42 #[ptrV s, .int .i64 (i : Int)] w fun e w' => e = .returned (.int .i64 0) ∧ Mi w0 O b i (R.set i none) s h C Ts Th Tr w' ∧ Mod Ts w w' := by
 refine (sfree_c M.bf.sat hy).mono ?_
 rintro e w' ⟨he, hs, hm⟩
 refine ⟨he, ⟨M.bf.stepS hs hm (fun k y' hy' => ?_), ?_, fun j hj => ⟨(M.lt j hj).1, Nat.lt_of_lt_of_le (M.lt j hj).2 hm.size⟩, M.m.then hm (fun j hj e => (M.lt j (.inl e)).1.resolve_right (by omega))⟩, hm⟩
 ·by_cases hk : k = i
  ·subst hk
   rw [List.getElem?_set_self (List.getElem?_eq_some_iff.1 hy).1] at hy'
   cases hy'
  ·rw [List.getElem?_set_ne (fun e => hk e.symm)] at hy'
   exact .inl hy'
 ·rw [con_setN, wtgo_set]
  exact M.perm
theorem mi_put (M : Mi w0 O b i R s h C Ts Th Tr w) (ht : TabW w) (hf : FreeS (conS R) i) {y : ItR} (hok : RdOk w y.r) (hin : RdIn Tr y.r) (hsm : RdSm y.r.con) : Calls Tryz.prog 37 #[ptrV s, .agg (itr y)] w fun e w' => e = .returned (.tuple #[.int .i64 (i : Int), .int .i64 0]) ∧ Mi w0 O b i (R.set i (some y)) s h C Ts Th Tr w' ∧ Mod Ts w w' := by
 refine (sput_c M.bf.sat ht hf.room y).mono ?_
 rintro e w' ⟨n, hn, he, hs, hm⟩
 obtain rfl := hn.s.uniq hf
 refine ⟨he, ⟨M.bf.stepS hs hm (fun k y' hy' => ?_), ?_, fun j hj => ⟨(M.lt j hj).1, Nat.lt_of_lt_of_le (M.lt j hj).2 hm.size⟩, M.m.then hm (fun j hj e => (M.lt j (.inl e)).1.resolve_right (by omega))⟩, hm⟩
 ·by_cases hk : k = n
  ·subst hk
   rw [List.getElem?_set_self (List.getElem?_eq_some_iff.1 hn.1).1] at hy'
   cases hy'
   exact .inr ⟨hok, hin, hsm⟩
  ·rw [List.getElem?_set_ne (fun e => hk e.symm)] at hy'
   exact .inl hy'
 ·rw [con_set, wtgo_set]
  exact M.perm
theorem mi_push (M : Mi w0 O b i R s h C Ts Th Tr w) {y : ItR} (hy : R[i]? = some (some y)) (hp : y.pl = 0) : Calls Tryz.prog 43 #[ptrV h, .agg (rkc y.rk), .int .i64 (i : Int)] w fun e w' => e = .returned (.int .i64 0) ∧ (∃ T', BHo w0 O b (conS R) T' w' ∧ ∀ j, T' j → (Ts j ∨ Th j ∨ Tr j ∨ j = b) ∨ w.heap.size ≤ j) ∧ Mod Th w w' := by
 have hlen := M.bf.sat.len.2
 have hil : i < R.length := (List.getElem?_eq_some_iff.1 hy).1
 have hidn : (idn i).toInt = (i : Int) := idn_toInt (by omega)
 have hx : (conS R)[i]? = some (some y.con) := by unfold conS; rw [List.getElem?_map, hy]; rfl
 have hc := pushH_c M.bf.hat (fun j hj => (M.lt j (.inr (.inl hj))).2) y.rk (idn i) M.small (M.ids hil)
 rw [hidn] at hc
 refine hc.mono ?_
 rintro e w' ⟨he, T', hA, hm, hg, hl⟩
 have hpm := push_perm (i := i) (x := y.con) M.perm (by rw [conS_len]; exact hil) (by show y.pl.toNat = 0; rw [hp]; rfl)
 rw [set_at hx] at hpm
 refine ⟨he, ⟨fun j => Ts j ∨ T' j ∨ Tr j ∨ j = b, ⟨s, h, R, C ++ [⟨y.rk, idn i⟩], Ts, T', Tr, M.bf.stepH (fun j hj => (M.lt j (by rcases hj with hj | hj | hj; exact .inl hj; exact .inr (.inr (.inl hj)); exact .inr (.inr (.inr hj)))).2) hA hm (fun j hj => hg j hj), rfl, hpm, fun j => Iff.rfl, fun j hj => ?_, M.m.then hm (fun j hj e => (M.lt j (.inr (.inl e))).1.resolve_right (by omega))⟩, fun j hj => ?_⟩, hm⟩
 rotate_left
 ·rcases hj with hj | hj | hj
  ·exact .inl (.inl hj)
  ·rcases hg j hj with h9 | h9
   ·exact .inl (.inr (.inl h9))
   ·exact .inr h9
  ·exact .inl (.inr (.inr hj))
 have hsz := hm.size
 have h0 := M.m.size
 rcases hj with hj | hj | hj
 ·have := M.lt j (.inl hj)
  exact ⟨this.1, by omega⟩
 ·refine ⟨?_, hl j hj⟩
  rcases hg j hj with h9 | h9
  ·exact (M.lt j (.inr (.inl h9))).1
  ·exact .inr (by omega)
 ·have := M.lt j (.inr (.inr hj))
  exact ⟨this.1, by omega⟩
end
end Go.Proofs.YtdeghpmlhcaedaaGreatDoor
namespace Go.Proofs.YtdeghpmlhcaedaaGreatDoor
open Go.RowKit
open Go.ChangeMaps (setBlock)
theorem zRk_sz : zRk.size = 2 := rfl
attribute [local go_sem ↓] wlItem ldItem stItem wlRdy ldRdy stRdy wlRk ldRk stRk eqRk eqRk2
attribute [local go_sem] cell_blk frozen_blk one_int one_bool one_ptr one_slice one_map Value.cells rkc_size rkc_all1 itr_size itr_all itr_one itr_one' itr_n itr_prio itr_pl itr_sent itr_n' itr_prio' itr_pl' itr_sent' itr_r zItem_size zItem_all zItem_one rdr_size rdr_all rdr_one rdr_one' zRk_sz
theorem itr_congr {n : UInt64} {x z : RdR} {pl : UInt8} {st : Bool} (h : rdr x = rdr z) : itr ⟨n, x, pl, st⟩ = itr ⟨n, z, pl, st⟩ := by
 have h1 := set_r ⟨n, z, pl, st⟩ x
 have h2 := set_r ⟨n, z, pl, st⟩ z
 rw [h] at h1
 exact h1.symm.trans h2
theorem aheadC (a b : Rk) (w : World) : Calls Tryz.prog 39 #[.agg (rkc a), .agg (rkc b)] w fun e w' => ∃ v, e = .returned v ∧ v = .bool (Ahead a b) ∧ Mod (fun _ => False) w w' :=
 (Ahead_c a b w).mono fun e w' h => by
  obtain ⟨h1, q, os, rfl⟩ := h
  exact ⟨_, h1, rfl, grow_mod _ _ _⟩
section
variable {w0 w w' ws : World} {O : Nat → Prop} {b : Nat} {S : List (Option It)}
set_option maxRecDepth 20000 in
set_option maxHeartbeats 6400000 in
theorem addR_c (H : BH w0 O b S w) (h0 : 0 < w0.heap.size ∧ ¬ O 0) (ht : TabW w) {n : Nat} (hn : FreeS S n) {x : RdR} (hx : RdOk w x) (hs : RdSm x.con) (num : UInt64) :
  Calls Tryz.prog 11 #[ptrV b, u64v num, .agg (rdr x)] w fun e w' => e = .returned (.tuple #[.int .i64 (n : Int), .slice none 0 0, .int .i64 0]) ∧ BH w0 O b (S.set n (some ⟨num, x.con, 0, false⟩)) w' := by
 obtain ⟨s, h, R, C, Ts, Th, Tr, HB, rfl, hperm, hT, m⟩ := H
 have kb := HB.kb
 have HH := Lib.hid (And.intro HB (And.intro hperm (And.intro hT (And.intro m (And.intro ht hn)))))
 have HX := Lib.hid (And.intro hx hs)
 clear HB hperm hT m ht hn hx hs
 go_enter Tryz.func11, Tryz.ntmps11
 go_upto_region 0 with fail
 have Lkb := lt_size kb
 refine wp_pass0 (C := fun _ _ _ => False) (κ := fun i => [3, 0, 0, 0].getD i 0) [0, 1, 2, 3] (by kernel_rfl) (by kernel_rfl) (fun _ _ d _ _ h => by cases d <;> first | exact h | exact absurd h (hP _ _ _)) ?_
 (refine TD.box (v := ?v1) (by simp only [zK]; rfl) rfl (by rfl) rfl rfl ?hx1 (fun p5 hp5 => ?n1); (case hx1 => simp only [Act.eval, zM]; try rfl); try simp only [Act.put, zL])
 (refine TD.val0 (v := ?v2) (by simp only [zK]; rfl) rfl (by rfl) (fun w1 => ?y2) ?n2; (case y2 => go_simp; try with_reducible rfl); try simp only [Act.put, zL])
 (refine TD.val0 (v := ?v3) (by simp only [zK]; rfl) rfl (by rfl) (fun w1 => ?y3) ?n3; (case y3 => go_simp; try with_reducible rfl); try simp only [Act.put, zL])
 (refine TD.val0 (v := ?v4) (by simp only [zK]; rfl) rfl (by rfl) (fun w1 => ?y4) ?n4; (case y4 => go_simp; try with_reducible rfl); try simp only [Act.put, zL])
 refine TD.nil (fun w1 hr => ?_)
 have kb := hr.mod.at kb (fun h => h)
 have kp5 := hr.box p5 _ (by first | exact Bx.set_same _ _ _ | (simp only [Bx.set_same]; rfl)); dsimp only [Value.cells] at kp5; obtain ⟨gp5, kp5⟩ := kp5
 have m1 := hr.mod
 clear hr
 go_wp2_with fail
 go_at_call 35
 refine (bthere_c kb).mono ?_
 rintro e w2 ⟨rfl, rfl⟩
 go_upto_region 3 with fail
 have Lkb := lt_size kb
 have Lkp5 := lt_size kp5
 refine wp_gpass0 (T0 := fun _ => False) (K := fun _ _ => True) (κ := fun i => [0, 0, 6, 0, 3, 4].getD i 0) (υ := fun i => [[], [], [], [], [], []].getD i []) [0, 1, 2, 3, 4, 5] (by kernel_rfl) (by kernel_rfl) (Good.true).cl (trivial) (fun _ h => h.elim) ?_
 have gK := Good.true
 (refine TG.v0 (v := ?v5) (by simp only [zK]; rfl) rfl (by rfl) (fun w1 => ?y5) ?n5; (case y5 => go_simp; try with_reducible rfl); try simp only [Act.put, zL])
 (refine TG.load (v := ?v6) (p := ?p6) (by simp only [zK]; rfl) rfl (by rfl) rfl ?hx6 (fun wq hSq => ?y6) ?n6; (case hx6 => simp only [Act.eval, zM]; try rfl); (case y6 => (have kbq := hSq.at kb (fun h => h); have kp5q := hSq.at kp5 (fun h => h); go_simp; (try with_reducible rfl))); try simp only [Act.put, zL])
 (refine TG.callM (f := ?f7) (args := ?r7) (RdL w.heap.size x.con) (goodRd w.heap.size x.con) gK (by simp only [zK]; rfl) rfl (by rfl) (fun w1 => ?y7) (fun T wq kq ltq hSq ub => ?hsp7) ?n7; (case y7 => (go_simp; (first | with_reducible rfl | (constructor <;> with_reducible rfl)))); (case hsp7 => (have kbq := hSq.at kb (fun h => h); have kp5q := hSq.at kp5 (fun h => h); exact freshL (x := x) w.heap.size (m1.then0 hSq).size T (HX.out.1.mod0 (m1.then0 hSq)) HX.out.2)); rintro v7 ⟨wI, TI, hI⟩; replace gK := gK.and ((goodRd w.heap.size x.con) v7); (obtain ⟨_, z0, rfl, _⟩ := hI.k); (try clear hI TI wI); try simp only [Act.put, zL])
 (refine TG.build (v := ?v8) (ps := ?p8) (by simp only [zK]; rfl) rfl (by rfl) rfl ?hx8 (fun w1 => ?y8) ?n8; (case hx8 => (simp only [List.map_toArray, List.map_cons, List.map_nil, Act.eval, zM]; (try rfl))); (case y8 => (rw [(bldItem num z0)]; (try with_reducible rfl))); try simp only [Act.put, zL])
 (refine TG.allocB (by simp only [zK]; rfl) rfl (by rfl) rfl rfl alItem (fun p9 hp9 _ => ?n9); try simp only [Act.put, zL])
 (refine TG.storeB (d := ?d10) (T := ?T10) (y := ?y10) (p := ?p10) (b := ?b10) (v := ?v10) (by simp only [zK]; rfl) rfl (by rfl) ?hd10 ?hop10 ?hev10 ?hx10 ?hb10 ?htag10 (fun w1 hb1 => ?hy10) ?hn10; (case hd10 => rfl); (case hop10 => rfl); (case hev10 => (simp only [Act.eval, zM]; (try rfl))); (case hx10 => simp only [Act.eval, zM]; try rfl); (case hb10 => first | exact Bx.set_same _ _ _ | (simp only [Bx.set_same]; rfl)); (case htag10 => rfl); (case hy10 => (go_simp; (try first | with_reducible rfl | (rw [setCell_blk hb1]; rfl)))); try simp only [Act.put, zL])
 refine TG.nil (fun w3 ⟨TR, hr⟩ => ?_)
 have kb := hr.mod.at kb (fun h => h)
 have kp5 := hr.mod.at kp5 (fun h => h)
 have kp9 := hr.box p9 _ (by first | exact Bx.set_same _ _ _ | (simp only [Bx.set_same]; rfl)); dsimp only [Value.cells] at kp9; obtain ⟨gp9, nTp9, kp9⟩ := kp9
 clear gK
 obtain ⟨_, z, hz, hzc, hzn, hzi⟩ := hr.k
 injection hz with hz
 rw [itr_congr hz] at kp9
 have m3 := m1.then0 hr.mod
 obtain ⟨y, hy⟩ : ∃ y : ItR, y = ⟨num, z, 0, false⟩ := ⟨_, rfl⟩
 rw [← hy] at kp9
 have gq9 : w.heap.size ≤ p9 := Nat.le_trans m1.size gp9
 have HZ := Lib.hid (And.intro hy (And.intro hzc (And.intro hzn (And.intro hz m3))))
 clear hr hzc hzn hzi hz hy kp5
 have hMb := bf_more (O := O) HH.out.1 HH.out.2.2.1 HH.out.2.2.2.1 m3
 have hM : Mi w0 O b n R s h C Ts Th (fun j => Tr j ∨ (w.heap.size ≤ j ∧ j < w3.heap.size)) w3 := ⟨hMb.1, (node_none (by rw [conS_len]; have := HH.out.1.sat.len; omega) HH.out.2.1 HH.out.2.2.2.2.2.1 rfl).2, hMb.2, HH.out.2.2.2.1.then0 m3⟩
 have hs9 : ¬ Ts p9 := fun e => by have := (HH.out.2.2.1 p9 (.inl e)).2; omega
 have HM := Lib.hid (And.intro hM hs9)
 clear hM hMb hs9 m3
 go_upto_region 4 with fail
 have Lkb := lt_size kb
 have Lkp9 := lt_size kp9
 refine wp_pass (C := fun _ _ _ => False) (κ := fun i => [0, 0, 0, 0, 1, 1, 5, 0, 0, 0, 0, 0].getD i 0) [0, 1, 2, 3, 4, 5, 6, 7, 8, 9, 10, 11] (by kernel_rfl) (by kernel_rfl) (fun _ _ d _ _ h => by cases d <;> first | exact h | exact absurd h (hP _ _ _)) ?_
 (refine TD.val0 (v := ?v11) (by simp only [zK]; rfl) rfl (by rfl) (fun w1 => ?y11) ?n11; (case y11 => go_simp; try with_reducible rfl); try simp only [Act.put, zL])
 (refine TD.val0 (v := ?v12) (by simp only [zK]; rfl) rfl (by rfl) (fun w1 => ?y12) ?n12; (case y12 => go_simp; try with_reducible rfl); try simp only [Act.put, zL])
 (refine TD.val0 (v := ?v13) (by simp only [zK]; rfl) rfl (by rfl) (fun w1 => ?y13) ?n13; (case y13 => go_simp; try with_reducible rfl); try simp only [Act.put, zL])
 (refine TD.val0 (v := ?v14) (by simp only [zK]; rfl) rfl (by rfl) (fun w1 => ?y14) ?n14; (case y14 => go_simp; try with_reducible rfl); try simp only [Act.put, zL])
 (refine TD.load (v := ?v15) (p := ?p15) (Mod.refl _ _) (by simp only [zK]; rfl) rfl (by rfl) rfl ?hx15 (fun wq hSq => ?y15) ?n15; (case hx15 => simp only [Act.eval, zM]; try rfl); (case y15 => (have kbq := hSq.at kb (fun h => h); have kp9q := hSq.at kp9 (fun h => h); go_simp; (try with_reducible rfl))); try simp only [Act.put, zL])
 (refine TD.load (v := ?v16) (p := ?p16) (Mod.refl _ _) (by simp only [zK]; rfl) rfl (by rfl) rfl ?hx16 (fun wq hSq => ?y16) ?n16; (case hx16 => simp only [Act.eval, zM]; try rfl); (case y16 => (have kbq := hSq.at kb (fun h => h); have kp9q := hSq.at kp9 (fun h => h); go_simp; (try with_reducible rfl))); try simp only [Act.put, zL])
 refine TD.eff (by simp only [zK]; rfl) rfl (fun w4 hr => ?_)
 have kb := hr.mod.at kb (fun h => h)
 have kp9 := hr.mod.at kp9 (fun h => h)
 have m4 := hr.mod
 clear hr
 have hcall := mi_put (y := y) (HM.out.1.mod0 m4) (HH.out.2.2.2.2.1.mod0 (HZ.out.2.2.2.2.then0 m4)) HH.out.2.2.2.2.2 (by rw [HZ.out.1]; exact (HZ.out.2.2.1.mod0 m4).ok) (by rw [HZ.out.1]; exact HZ.out.2.2.1.inn.mono (fun i hi => .inr hi)) (by rw [HZ.out.1]; show RdSm z.con; rw [HZ.out.2.1]; exact HX.out.2)
 (refine eff_callP (by simp only [zK]; rfl) (by rfl) ?y18 hcall (fun wn hP => ?n18); (case y18 => (go_simp; (try (first | with_reducible rfl | (constructor <;> with_reducible rfl))))); try simp only [Act.put, zL])
 (refine TE.val0 (v := ?v19) (by simp only [zK]; rfl) (by rfl) (fun w1 => ?y19) ?n19; (case y19 => go_simp; try with_reducible rfl); try simp only [Act.put, zL])
 (refine TE.val0 (v := ?v20) (by simp only [zK]; rfl) (by rfl) (fun w1 => ?y20) ?n20; (case y20 => go_simp; try with_reducible rfl); try simp only [Act.put, zL])
 (refine TE.val0 (v := ?v21) (by simp only [zK]; rfl) (by rfl) (fun w1 => ?y21) ?n21; (case y21 => go_simp; try with_reducible rfl); try simp only [Act.put, zL])
 (refine TE.val0 (v := ?v22) (by simp only [zK]; rfl) (by rfl) (fun w1 => ?y22) ?n22; (case y22 => go_simp; try with_reducible rfl); try simp only [Act.put, zL])
 (refine TE.val0 (v := ?v23) (by simp only [zK]; rfl) (by rfl) (fun w1 => ?y23) ?n23; (case y23 => go_simp; try with_reducible rfl); try simp only [Act.put, zL])
 refine TE.nil ?_
 obtain ⟨hM5, m5⟩ := hP
 have kb := hM5.bf.kb
 have kp9 := m5.at kp9 HM.out.2
 have HM5 := Lib.hid (And.intro hM5 m5)
 clear hcall hM5 m5
 go_upto_region 13 with fail
 have Lkb := lt_size kb
 have Lkp9 := lt_size kp9
 refine wp_pass (C := fun _ _ v => v = .agg (rkc y.rk)) (κ := fun i => [0, 0, 0, 0, 1, 1, 2, 0, 5].getD i 0) [0, 1, 2, 3, 4, 5, 6, 7, 8] (by kernel_rfl) (by kernel_rfl) (fun _ _ d _ _ h => by cases d <;> first | exact h | exact absurd h (hP _ _ _)) ?_
 (refine TD.val0 (v := ?v24) (by simp only [zK]; rfl) rfl (by rfl) (fun w1 => ?y24) ?n24; (case y24 => go_simp; try with_reducible rfl); try simp only [Act.put, zL])
 (refine TD.val0 (v := ?v25) (by simp only [zK]; rfl) rfl (by rfl) (fun w1 => ?y25) ?n25; (case y25 => go_simp; try with_reducible rfl); try simp only [Act.put, zL])
 (refine TD.val0 (v := ?v26) (by simp only [zK]; rfl) rfl (by rfl) (fun w1 => ?y26) ?n26; (case y26 => go_simp; try with_reducible rfl); try simp only [Act.put, zL])
 (refine TD.val0 (v := ?v27) (by simp only [zK]; rfl) rfl (by rfl) (fun w1 => ?y27) ?n27; (case y27 => go_simp; try with_reducible rfl); try simp only [Act.put, zL])
 (refine TD.load (v := ?v28) (p := ?p28) (Mod.refl _ _) (by simp only [zK]; rfl) rfl (by rfl) rfl ?hx28 (fun wq hSq => ?y28) ?n28; (case hx28 => simp only [Act.eval, zM]; try rfl); (case y28 => (have kbq := hSq.at kb (fun h => h); have kp9q := hSq.at kp9 (fun h => h); go_simp; (try with_reducible rfl))); try simp only [Act.put, zL])
 (refine TD.load (v := ?v29) (p := ?p29) (Mod.refl _ _) (by simp only [zK]; rfl) rfl (by rfl) rfl ?hx29 (fun wq hSq => ?y29) ?n29; (case hx29 => simp only [Act.eval, zM]; try rfl); (case y29 => (have kbq := hSq.at kb (fun h => h); have kp9q := hSq.at kp9 (fun h => h); go_simp; (try with_reducible rfl))); try simp only [Act.put, zL])
 (refine TD.call (f := ?f30) (args := ?r30) (Mod.refl _ _) (by simp only [zK]; rfl) rfl (by rfl) (fun w1 => ?y30) ?hsp30 ?n30; (case y30 => (go_simp; (first | with_reducible rfl | (constructor <;> with_reducible rfl)))); (case hsp30 => (intro wq hSq; have kbq := hSq.at kb (fun h => h); have kp9q := hSq.at kp9 (fun h => h); exact (irank_c y wq).mono (fun e w' h => ⟨_, h.1, rfl, h.2⟩))); rintro _ rfl; try simp only [Act.put, zL])
 (refine TD.val0 (v := ?v31) (by simp only [zK]; rfl) rfl (by rfl) (fun w1 => ?y31) ?n31; (case y31 => go_simp; try with_reducible rfl); try simp only [Act.put, zL])
 refine TD.eff (by simp only [zK]; rfl) rfl (fun w6 hr => ?_)
 have kb := hr.mod.at kb (fun h => h)
 have kp9 := hr.mod.at kp9 (fun h => h)
 have m6 := hr.mod
 clear hr
 have hpush := mi_push (y := y) (HM5.out.1.mod0 m6) (List.getElem?_set_self (by have := (List.getElem?_eq_some_iff.1 HH.out.2.2.2.2.2.1).1; rw [conS_len] at this; exact this)) (by rw [HZ.out.1])
 have hE : conS (R.set n (some y)) = (conS R).set n (some ⟨num, x.con, 0, false⟩) := by
  rw [con_set, HZ.out.1, ← HZ.out.2.1]
  rfl
 rw [hE] at hpush
 (refine eff_callP (by simp only [zK]; rfl) (by rfl) ?y33 hpush (fun wn hP => ?n33); (case y33 => (go_simp; (try (first | with_reducible rfl | (constructor <;> with_reducible rfl))))); try simp only [Act.put, zL])
 refine TE.nil ?_
 have HF := Lib.hid hP
 clear hP hpush hE
 go_wp2_with fail
 exact bodyPost_ret (results_tmp3 rfl _ _ _) rfl ⟨rfl, by obtain ⟨T', h, _⟩ := HF.out.1; exact h.bh⟩
theorem con_count {R : List (Option ItR)} : (conS R).countP Option.isSome = R.countP Option.isSome := by
 unfold conS
 rw [List.countP_map]
 exact List.countP_congr (fun o _ => by cases o <;> simp)
set_option maxRecDepth 20000 in
set_option maxHeartbeats 6400000 in
theorem addN_c (H : BH w0 O b S w) (hf : S.countP Option.isSome = S.length) (hD : wtg 0 S = []) {x : RdR} (hx : RdOk w x) (hs : RdSm x.con) (num : UInt64) :
  Calls Tryz.prog 11 #[ptrV b, u64v num, .agg (rdr x)] w fun e w' => e = .returned (.tuple #[.int .i64 0, .slice none 0 0, .int .i64 3]) ∧ Mod (fun _ => False) w w' := by
 obtain ⟨s, h, R, C, Ts, Th, Tr, HB, rfl, hperm, hT, m⟩ := H
 have kb := HB.kb
 rw [con_count, conS_len] at hf
 have hbot : ∀ wq, Mod (fun _ => False) w wq → Calls Tryz.prog 38 #[ptrV h] wq fun e w' => e = .returned (.tuple #[.agg (rkc rk0), .int .i64 0, .bool false]) ∧ Mod (fun _ => False) wq w' := fun wq hq => botS_c (HB.mod0 hq).hat (D := []) (by rw [← hD]; exact hperm.symm) .nil
 have HBT := Lib.hid hbot
 have HH := Lib.hid (And.intro HB (And.intro hperm (And.intro hT (And.intro m (And.intro hf (And.intro hf hf))))))
 have HX := Lib.hid (And.intro hx hs)
 clear HB hperm hT m hx hs hf hD hbot
 go_enter Tryz.func11, Tryz.ntmps11
 go_upto_region 0 with fail
 have Lkb := lt_size kb
 refine wp_pass0 (C := fun _ _ _ => False) (κ := fun i => [3, 0, 0, 0].getD i 0) [0, 1, 2, 3] (by kernel_rfl) (by kernel_rfl) (fun _ _ d _ _ h => by cases d <;> first | exact h | exact absurd h (hP _ _ _)) ?_
 (refine TD.box (v := ?v34) (by simp only [zK]; rfl) rfl (by rfl) rfl rfl ?hx34 (fun p5 hp5 => ?n34); (case hx34 => simp only [Act.eval, zM]; try rfl); try simp only [Act.put, zL])
 (refine TD.val0 (v := ?v35) (by simp only [zK]; rfl) rfl (by rfl) (fun w1 => ?y35) ?n35; (case y35 => go_simp; try with_reducible rfl); try simp only [Act.put, zL])
 (refine TD.val0 (v := ?v36) (by simp only [zK]; rfl) rfl (by rfl) (fun w1 => ?y36) ?n36; (case y36 => go_simp; try with_reducible rfl); try simp only [Act.put, zL])
 (refine TD.val0 (v := ?v37) (by simp only [zK]; rfl) rfl (by rfl) (fun w1 => ?y37) ?n37; (case y37 => go_simp; try with_reducible rfl); try simp only [Act.put, zL])
 refine TD.nil (fun w1 hr => ?_)
 have kb := hr.mod.at kb (fun h => h)
 have kp5 := hr.box p5 _ (by first | exact Bx.set_same _ _ _ | (simp only [Bx.set_same]; rfl)); dsimp only [Value.cells] at kp5; obtain ⟨gp5, kp5⟩ := kp5
 have m1 := hr.mod
 clear hr
 go_wp2_with fail
 go_at_call 35
 refine (bthere_c kb).mono ?_
 rintro e w2 ⟨rfl, rfl⟩
 go_upto_region 3 with fail
 have Lkb := lt_size kb
 have Lkp5 := lt_size kp5
 refine wp_gpass0 (T0 := fun _ => False) (K := fun _ _ => True) (κ := fun i => [0, 0, 6, 0, 3, 4].getD i 0) (υ := fun i => [[], [], [], [], [], []].getD i []) [0, 1, 2, 3, 4, 5] (by kernel_rfl) (by kernel_rfl) (Good.true).cl (trivial) (fun _ h => h.elim) ?_
 have gK := Good.true
 (refine TG.v0 (v := ?v38) (by simp only [zK]; rfl) rfl (by rfl) (fun w1 => ?y38) ?n38; (case y38 => go_simp; try with_reducible rfl); try simp only [Act.put, zL])
 (refine TG.load (v := ?v39) (p := ?p39) (by simp only [zK]; rfl) rfl (by rfl) rfl ?hx39 (fun wq hSq => ?y39) ?n39; (case hx39 => simp only [Act.eval, zM]; try rfl); (case y39 => (have kbq := hSq.at kb (fun h => h); have kp5q := hSq.at kp5 (fun h => h); go_simp; (try with_reducible rfl))); try simp only [Act.put, zL])
 (refine TG.callM (f := ?f40) (args := ?r40) (RdL w.heap.size x.con) (goodRd w.heap.size x.con) gK (by simp only [zK]; rfl) rfl (by rfl) (fun w1 => ?y40) (fun T wq kq ltq hSq ub => ?hsp40) ?n40; (case y40 => (go_simp; (first | with_reducible rfl | (constructor <;> with_reducible rfl)))); (case hsp40 => (have kbq := hSq.at kb (fun h => h); have kp5q := hSq.at kp5 (fun h => h); exact freshL (x := x) w.heap.size (m1.then0 hSq).size T (HX.out.1.mod0 (m1.then0 hSq)) HX.out.2)); rintro v40 ⟨wI, TI, hI⟩; replace gK := gK.and ((goodRd w.heap.size x.con) v40); (obtain ⟨_, z0, rfl, _⟩ := hI.k); (try clear hI TI wI); try simp only [Act.put, zL])
 (refine TG.build (v := ?v41) (ps := ?p41) (by simp only [zK]; rfl) rfl (by rfl) rfl ?hx41 (fun w1 => ?y41) ?n41; (case hx41 => (simp only [List.map_toArray, List.map_cons, List.map_nil, Act.eval, zM]; (try rfl))); (case y41 => (rw [(bldItem num z0)]; (try with_reducible rfl))); try simp only [Act.put, zL])
 (refine TG.allocB (by simp only [zK]; rfl) rfl (by rfl) rfl rfl alItem (fun p9 hp9 _ => ?n42); try simp only [Act.put, zL])
 (refine TG.storeB (d := ?d43) (T := ?T43) (y := ?y43) (p := ?p43) (b := ?b43) (v := ?v43) (by simp only [zK]; rfl) rfl (by rfl) ?hd43 ?hop43 ?hev43 ?hx43 ?hb43 ?htag43 (fun w1 hb1 => ?hy43) ?hn43; (case hd43 => rfl); (case hop43 => rfl); (case hev43 => (simp only [Act.eval, zM]; (try rfl))); (case hx43 => simp only [Act.eval, zM]; try rfl); (case hb43 => first | exact Bx.set_same _ _ _ | (simp only [Bx.set_same]; rfl)); (case htag43 => rfl); (case hy43 => (go_simp; (try first | with_reducible rfl | (rw [setCell_blk hb1]; rfl)))); try simp only [Act.put, zL])
 refine TG.nil (fun w3 ⟨TR, hr⟩ => ?_)
 have kb := hr.mod.at kb (fun h => h)
 have kp5 := hr.mod.at kp5 (fun h => h)
 have kp9 := hr.box p9 _ (by first | exact Bx.set_same _ _ _ | (simp only [Bx.set_same]; rfl)); dsimp only [Value.cells] at kp9; obtain ⟨gp9, nTp9, kp9⟩ := kp9
 clear gK
 obtain ⟨_, z, hz, hzc, hzn, hzi⟩ := hr.k
 injection hz with hz
 rw [itr_congr hz] at kp9
 have m3 := m1.then0 hr.mod
 obtain ⟨y, hy⟩ : ∃ y : ItR, y = ⟨num, z, 0, false⟩ := ⟨_, rfl⟩
 rw [← hy] at kp9
 have gq9 : w.heap.size ≤ p9 := Nat.le_trans m1.size gp9
 have HZ := Lib.hid (And.intro hy (And.intro hzc (And.intro hzn (And.intro hz m3))))
 clear hr hzc hzn hzi hz hy kp5
 have HB3 := Lib.hid (HH.out.1.mod0 HZ.out.2.2.2.2)
 go_upto_region 4 with fail
 have Lkb := lt_size kb
 have Lkp9 := lt_size kp9
 refine wp_pass (C := fun _ _ v => v = .tuple #[.int .i64 0, .int .i64 3]) (κ := fun i => [0, 0, 0, 0, 1, 1, 2, 0, 0, 0, 0, 0].getD i 0) [0, 1, 2, 3, 4, 5, 6, 7, 8, 9, 10, 11] (by kernel_rfl) (by kernel_rfl) (fun _ _ d _ _ h => by cases d <;> first | exact h | exact absurd h (hP _ _ _)) ?_
 (refine TD.val0 (v := ?v44) (by simp only [zK]; rfl) rfl (by rfl) (fun w1 => ?y44) ?n44; (case y44 => go_simp; try with_reducible rfl); try simp only [Act.put, zL])
 (refine TD.val0 (v := ?v45) (by simp only [zK]; rfl) rfl (by rfl) (fun w1 => ?y45) ?n45; (case y45 => go_simp; try with_reducible rfl); try simp only [Act.put, zL])
 (refine TD.val0 (v := ?v46) (by simp only [zK]; rfl) rfl (by rfl) (fun w1 => ?y46) ?n46; (case y46 => go_simp; try with_reducible rfl); try simp only [Act.put, zL])
 (refine TD.val0 (v := ?v47) (by simp only [zK]; rfl) rfl (by rfl) (fun w1 => ?y47) ?n47; (case y47 => go_simp; try with_reducible rfl); try simp only [Act.put, zL])
 (refine TD.load (v := ?v48) (p := ?p48) (Mod.refl _ _) (by simp only [zK]; rfl) rfl (by rfl) rfl ?hx48 (fun wq hSq => ?y48) ?n48; (case hx48 => simp only [Act.eval, zM]; try rfl); (case y48 => (have kbq := hSq.at kb (fun h => h); have kp9q := hSq.at kp9 (fun h => h); go_simp; (try with_reducible rfl))); try simp only [Act.put, zL])
 (refine TD.load (v := ?v49) (p := ?p49) (Mod.refl _ _) (by simp only [zK]; rfl) rfl (by rfl) rfl ?hx49 (fun wq hSq => ?y49) ?n49; (case hx49 => simp only [Act.eval, zM]; try rfl); (case y49 => (have kbq := hSq.at kb (fun h => h); have kp9q := hSq.at kp9 (fun h => h); go_simp; (try with_reducible rfl))); try simp only [Act.put, zL])
 (refine TD.call (f := ?f50) (args := ?r50) (Mod.refl _ _) (by simp only [zK]; rfl) rfl (by rfl) (fun w1 => ?y50) ?hsp50 ?n50; (case y50 => (go_simp; (first | with_reducible rfl | (constructor <;> with_reducible rfl)))); (case hsp50 => (intro wq hSq; have kbq := hSq.at kb (fun h => h); have kp9q := hSq.at kp9 (fun h => h); exact (sputN_c (HB3.out.mod0 hSq).sat HH.out.2.2.2.2.2.1 y).mono (fun e w' h => ⟨_, h.1, rfl, h.2⟩))); rintro _ rfl; try simp only [Act.put, zL])
 (refine TD.val0 (v := ?v51) (by simp only [zK]; rfl) rfl (by rfl) (fun w1 => ?y51) ?n51; (case y51 => go_simp; try with_reducible rfl); try simp only [Act.put, zL])
 (refine TD.val0 (v := ?v52) (by simp only [zK]; rfl) rfl (by rfl) (fun w1 => ?y52) ?n52; (case y52 => go_simp; try with_reducible rfl); try simp only [Act.put, zL])
 (refine TD.val0 (v := ?v53) (by simp only [zK]; rfl) rfl (by rfl) (fun w1 => ?y53) ?n53; (case y53 => go_simp; try with_reducible rfl); try simp only [Act.put, zL])
 (refine TD.val0 (v := ?v54) (by simp only [zK]; rfl) rfl (by rfl) (fun w1 => ?y54) ?n54; (case y54 => go_simp; try with_reducible rfl); try simp only [Act.put, zL])
 (refine TD.val0 (v := ?v55) (by simp only [zK]; rfl) rfl (by rfl) (fun w1 => ?y55) ?n55; (case y55 => go_simp; try with_reducible rfl); try simp only [Act.put, zL])
 refine TD.nil (fun w4 hr => ?_)
 have kb := hr.mod.at kb (fun h => h)
 have kp9 := hr.mod.at kp9 (fun h => h)
 have m4 := m3.then0 hr.mod
 have n4 := hr.mod
 clear hr
 go_upto_region 6 with fail
 have Lkb := lt_size kb
 have Lkp9 := lt_size kp9
 refine wp_pass0 (C := fun _ _ v => v = .tuple #[.agg (rkc rk0), .int .i64 0, .bool false]) (κ := fun i => [0, 0, 0, 0, 1, 2, 0, 0, 0, 0, 3, 4, 0, 0].getD i 0) [0, 1, 2, 3, 4, 5, 6, 7, 8, 9, 10, 11, 12, 13] (by kernel_rfl) (by kernel_rfl) (fun _ _ d _ _ h => by cases d <;> first | exact h | exact absurd h (hP _ _ _)) ?_
 (refine TD.val0 (v := ?v56) (by simp only [zK]; rfl) rfl (by rfl) (fun w1 => ?y56) ?n56; (case y56 => go_simp; try with_reducible rfl); try simp only [Act.put, zL])
 (refine TD.val0 (v := ?v57) (by simp only [zK]; rfl) rfl (by rfl) (fun w1 => ?y57) ?n57; (case y57 => go_simp; try with_reducible rfl); try simp only [Act.put, zL])
 (refine TD.val0 (v := ?v58) (by simp only [zK]; rfl) rfl (by rfl) (fun w1 => ?y58) ?n58; (case y58 => go_simp; try with_reducible rfl); try simp only [Act.put, zL])
 (refine TD.val0 (v := ?v59) (by simp only [zK]; rfl) rfl (by rfl) (fun w1 => ?y59) ?n59; (case y59 => go_simp; try with_reducible rfl); try simp only [Act.put, zL])
 (refine TD.load (v := ?v60) (p := ?p60) (Mod.refl _ _) (by simp only [zK]; rfl) rfl (by rfl) rfl ?hx60 (fun wq hSq => ?y60) ?n60; (case hx60 => simp only [Act.eval, zM]; try rfl); (case y60 => (have kbq := hSq.at kb (fun h => h); have kp9q := hSq.at kp9 (fun h => h); go_simp; (try with_reducible rfl))); try simp only [Act.put, zL])
 (refine TD.call (f := ?f61) (args := ?r61) (Mod.refl _ _) (by simp only [zK]; rfl) rfl (by rfl) (fun w1 => ?y61) ?hsp61 ?n61; (case y61 => (go_simp; (first | with_reducible rfl | (constructor <;> with_reducible rfl)))); (case hsp61 => (intro wq hSq; have kbq := hSq.at kb (fun h => h); have kp9q := hSq.at kp9 (fun h => h); exact (HBT.out wq (m4.then0 hSq)).mono (fun e w' h => ⟨_, h.1, rfl, h.2⟩))); rintro _ rfl; try simp only [Act.put, zL])
 (refine TD.val0 (v := ?v62) (by simp only [zK]; rfl) rfl (by rfl) (fun w1 => ?y62) ?n62; (case y62 => go_simp; try with_reducible rfl); try simp only [Act.put, zL])
 (refine TD.val0 (v := ?v63) (by simp only [zK]; rfl) rfl (by rfl) (fun w1 => ?y63) ?n63; (case y63 => go_simp; try with_reducible rfl); try simp only [Act.put, zL])
 (refine TD.val0 (v := ?v64) (by simp only [zK]; rfl) rfl (by rfl) (fun w1 => ?y64) ?n64; (case y64 => go_simp; try with_reducible rfl); try simp only [Act.put, zL])
 (refine TD.val0 (v := ?v65) (by simp only [zK]; rfl) rfl (by rfl) (fun w1 => ?y65) ?n65; (case y65 => go_simp; try with_reducible rfl); try simp only [Act.put, zL])
 (refine TD.allocB (by simp only [zK]; rfl) rfl (by rfl) rfl rfl alRk (fun p10 hp10 => ?n66); try simp only [Act.put, zL])
 (refine TD.storeB (d := ?d67) (T := ?T67) (y := ?y67) (p := ?p67) (b := ?b67) (v := ?v67) (by simp only [zK]; rfl) rfl (by rfl) ?hd67 ?hop67 ?hev67 ?hx67 ?hb67 ?htag67 (fun w1 hb1 => ?hy67) ?hn67; (case hd67 => rfl); (case hop67 => rfl); (case hev67 => (simp only [Act.eval, zM]; (try rfl))); (case hx67 => simp only [Act.eval, zM]; try rfl); (case hb67 => first | exact Bx.set_same _ _ _ | (simp only [Bx.set_same]; rfl)); (case hy67 => (go_simp; (try first | with_reducible rfl | (rw [setCell_blk hb1]; rfl)))); try simp only [Act.put, zL])
 (refine TD.val0 (v := ?v68) (by simp only [zK]; rfl) rfl (by rfl) (fun w1 => ?y68) ?n68; (case y68 => go_simp; try with_reducible rfl); try simp only [Act.put, zL])
 (refine TD.val0 (v := ?v69) (by simp only [zK]; rfl) rfl (by rfl) (fun w1 => ?y69) ?n69; (case y69 => go_simp; try with_reducible rfl); try simp only [Act.put, zL])
 refine TD.nil (fun w5 hr => ?_)
 have kb := hr.mod.at kb (fun h => h)
 have kp9 := hr.mod.at kp9 (fun h => h)
 have kp10 := hr.box p10 _ (by first | exact Bx.set_same _ _ _ | (simp only [Bx.set_same]; rfl)); dsimp only [Value.cells] at kp10; obtain ⟨gp10, kp10⟩ := kp10
 have m5 := m4.then0 hr.mod
 have n5 := n4.then0 hr.mod
 have gq10 : w.heap.size ≤ p10 := Nat.le_trans m4.size gp10
 clear hr
 go_upto_region 7 with fail
 refine wp_pass (C := fun _ _ _ => False) (κ := fun i => [0, 0, 0, 0, 0, 0, 0, 0, 0].getD i 0) [0, 1, 2, 3, 4, 5, 6, 7, 8] (by kernel_rfl) (by kernel_rfl) (fun _ _ d _ _ h => by cases d <;> first | exact h | exact absurd h (hP _ _ _)) ?_
 (refine TD.val0 (v := ?v70) (by simp only [zK]; rfl) rfl (by rfl) (fun w1 => ?y70) ?n70; (case y70 => go_simp; try with_reducible rfl); try simp only [Act.put, zL])
 (refine TD.val0 (v := ?v71) (by simp only [zK]; rfl) rfl (by rfl) (fun w1 => ?y71) ?n71; (case y71 => go_simp; try with_reducible rfl); try simp only [Act.put, zL])
 (refine TD.val0 (v := ?v72) (by simp only [zK]; rfl) rfl (by rfl) (fun w1 => ?y72) ?n72; (case y72 => go_simp; try with_reducible rfl); try simp only [Act.put, zL])
 (refine TD.pass (by simp only [zK]; rfl) rfl (by rfl) ?n73; try simp only [Act.put, zL])
 (refine TD.pass (by simp only [zK]; rfl) rfl (by rfl) ?n74; try simp only [Act.put, zL])
 (refine TD.pass (by simp only [zK]; rfl) rfl (by rfl) ?n75; try simp only [Act.put, zL])
 (refine TD.pass (by simp only [zK]; rfl) rfl (by rfl) ?n76; try simp only [Act.put, zL])
 (refine TD.pass (by simp only [zK]; rfl) rfl (by rfl) ?n77; try simp only [Act.put, zL])
 (refine TD.val0 (v := ?v78) (by simp only [zK]; rfl) rfl (by rfl) (fun w1 => ?y78) ?n78; (case y78 => go_simp; try with_reducible rfl); try simp only [Act.put, zL])
 refine TD.nil (fun w6 hr => ?_)
 have m6 := m5.then0 hr.mod
 clear hr
 go_wp2_with fail
 exact bodyPost_ret (results_tmp3 rfl _ _ _) rfl ⟨rfl, m6⟩
set_option maxRecDepth 20000 in
set_option maxHeartbeats 6400000 in
theorem addL_c (H : BH w0 O b S w) (hf : S.countP Option.isSome = S.length) {D : List Nd} (hD : D.Perm (wtg 0 S)) (hS : Srt D) {i : Nat} {x' : It} (hx' : S[i]? = some (some x')) (hl : D.getLast? = some ⟨x'.rk, idn i⟩) {x : RdR} (hx : RdOk w x) (hs : RdSm x.con) (num : UInt64) (hA : Ahead ⟨x.prio, num⟩ x'.rk = false) :
  Calls Tryz.prog 11 #[ptrV b, u64v num, .agg (rdr x)] w fun e w' => e = .returned (.tuple #[.int .i64 0, .slice none 0 0, .int .i64 3]) ∧ Mod (fun _ => False) w w' := by
 obtain ⟨s, h, R, C, Ts, Th, Tr, HB, rfl, hperm, hT, m⟩ := H
 have kb := HB.kb
 rw [con_count, conS_len] at hf
 have hil : i < (conS R).length := (List.getElem?_eq_some_iff.1 hx').1
 have hsl := HB.sat.len
 rw [conS_len] at hil
 have hid : (idn i).toInt = (i : Int) := idn_toInt (by omega)
 have hbot : ∀ wq, Mod (fun _ => False) w wq → Calls Tryz.prog 38 #[ptrV h] wq fun e w' => e = .returned (.tuple #[.agg (rkc x'.rk), .int .i64 (i : Int), .bool true]) ∧ Mod (fun _ => False) wq w' := fun wq hq => by
  have hb := botS_c (HB.mod0 hq).hat (hD.trans hperm.symm) hS
  rw [hl] at hb
  have hv : env (enOf (some ⟨x'.rk, idn i⟩)) = .tuple #[.agg (rkc x'.rk), .int .i64 (i : Int), .bool true] := by
   show env ⟨x'.rk, idn i, true⟩ = _
   unfold env
   rw [hid]
  rw [hv] at hb
  exact hb
 have HBT := Lib.hid hbot
 have HH := Lib.hid (And.intro HB (And.intro hperm (And.intro hT (And.intro m (And.intro hf (And.intro hf hA))))))
 have HX := Lib.hid (And.intro hx hs)
 clear HB hperm hT m hx hs hf hD hbot hS hx' hl hA hil hsl hid
 go_enter Tryz.func11, Tryz.ntmps11
 go_upto_region 0 with fail
 have Lkb := lt_size kb
 refine wp_pass0 (C := fun _ _ _ => False) (κ := fun i => [3, 0, 0, 0].getD i 0) [0, 1, 2, 3] (by kernel_rfl) (by kernel_rfl) (fun _ _ d _ _ h => by cases d <;> first | exact h | exact absurd h (hP _ _ _)) ?_
 (refine TD.box (v := ?v79) (by simp only [zK]; rfl) rfl (by rfl) rfl rfl ?hx79 (fun p5 hp5 => ?n79); (case hx79 => simp only [Act.eval, zM]; try rfl); try simp only [Act.put, zL])
 (refine TD.val0 (v := ?v80) (by simp only [zK]; rfl) rfl (by rfl) (fun w1 => ?y80) ?n80; (case y80 => go_simp; try with_reducible rfl); try simp only [Act.put, zL])
 (refine TD.val0 (v := ?v81) (by simp only [zK]; rfl) rfl (by rfl) (fun w1 => ?y81) ?n81; (case y81 => go_simp; try with_reducible rfl); try simp only [Act.put, zL])
 (refine TD.val0 (v := ?v82) (by simp only [zK]; rfl) rfl (by rfl) (fun w1 => ?y82) ?n82; (case y82 => go_simp; try with_reducible rfl); try simp only [Act.put, zL])
 refine TD.nil (fun w1 hr => ?_)
 have kb := hr.mod.at kb (fun h => h)
 have kp5 := hr.box p5 _ (by first | exact Bx.set_same _ _ _ | (simp only [Bx.set_same]; rfl)); dsimp only [Value.cells] at kp5; obtain ⟨gp5, kp5⟩ := kp5
 have m1 := hr.mod
 clear hr
 go_wp2_with fail
 go_at_call 35
 refine (bthere_c kb).mono ?_
 rintro e w2 ⟨rfl, rfl⟩
 go_upto_region 3 with fail
 have Lkb := lt_size kb
 have Lkp5 := lt_size kp5
 refine wp_gpass0 (T0 := fun _ => False) (K := fun _ _ => True) (κ := fun i => [0, 0, 6, 0, 3, 4].getD i 0) (υ := fun i => [[], [], [], [], [], []].getD i []) [0, 1, 2, 3, 4, 5] (by kernel_rfl) (by kernel_rfl) (Good.true).cl (trivial) (fun _ h => h.elim) ?_
 have gK := Good.true
 (refine TG.v0 (v := ?v83) (by simp only [zK]; rfl) rfl (by rfl) (fun w1 => ?y83) ?n83; (case y83 => go_simp; try with_reducible rfl); try simp only [Act.put, zL])
 (refine TG.load (v := ?v84) (p := ?p84) (by simp only [zK]; rfl) rfl (by rfl) rfl ?hx84 (fun wq hSq => ?y84) ?n84; (case hx84 => simp only [Act.eval, zM]; try rfl); (case y84 => (have kbq := hSq.at kb (fun h => h); have kp5q := hSq.at kp5 (fun h => h); go_simp; (try with_reducible rfl))); try simp only [Act.put, zL])
 (refine TG.callM (f := ?f85) (args := ?r85) (RdL w.heap.size x.con) (goodRd w.heap.size x.con) gK (by simp only [zK]; rfl) rfl (by rfl) (fun w1 => ?y85) (fun T wq kq ltq hSq ub => ?hsp85) ?n85; (case y85 => (go_simp; (first | with_reducible rfl | (constructor <;> with_reducible rfl)))); (case hsp85 => (have kbq := hSq.at kb (fun h => h); have kp5q := hSq.at kp5 (fun h => h); exact freshL (x := x) w.heap.size (m1.then0 hSq).size T (HX.out.1.mod0 (m1.then0 hSq)) HX.out.2)); rintro v85 ⟨wI, TI, hI⟩; replace gK := gK.and ((goodRd w.heap.size x.con) v85); (obtain ⟨_, z0, rfl, _⟩ := hI.k); (try clear hI TI wI); try simp only [Act.put, zL])
 (refine TG.build (v := ?v86) (ps := ?p86) (by simp only [zK]; rfl) rfl (by rfl) rfl ?hx86 (fun w1 => ?y86) ?n86; (case hx86 => (simp only [List.map_toArray, List.map_cons, List.map_nil, Act.eval, zM]; (try rfl))); (case y86 => (rw [(bldItem num z0)]; (try with_reducible rfl))); try simp only [Act.put, zL])
 (refine TG.allocB (by simp only [zK]; rfl) rfl (by rfl) rfl rfl alItem (fun p9 hp9 _ => ?n87); try simp only [Act.put, zL])
 (refine TG.storeB (d := ?d88) (T := ?T88) (y := ?y88) (p := ?p88) (b := ?b88) (v := ?v88) (by simp only [zK]; rfl) rfl (by rfl) ?hd88 ?hop88 ?hev88 ?hx88 ?hb88 ?htag88 (fun w1 hb1 => ?hy88) ?hn88; (case hd88 => rfl); (case hop88 => rfl); (case hev88 => (simp only [Act.eval, zM]; (try rfl))); (case hx88 => simp only [Act.eval, zM]; try rfl); (case hb88 => first | exact Bx.set_same _ _ _ | (simp only [Bx.set_same]; rfl)); (case htag88 => rfl); (case hy88 => (go_simp; (try first | with_reducible rfl | (rw [setCell_blk hb1]; rfl)))); try simp only [Act.put, zL])
 refine TG.nil (fun w3 ⟨TR, hr⟩ => ?_)
 have kb := hr.mod.at kb (fun h => h)
 have kp5 := hr.mod.at kp5 (fun h => h)
 have kp9 := hr.box p9 _ (by first | exact Bx.set_same _ _ _ | (simp only [Bx.set_same]; rfl)); dsimp only [Value.cells] at kp9; obtain ⟨gp9, nTp9, kp9⟩ := kp9
 clear gK
 obtain ⟨_, z, hz, hzc, hzn, hzi⟩ := hr.k
 injection hz with hz
 rw [itr_congr hz] at kp9
 have m3 := m1.then0 hr.mod
 obtain ⟨y, hy⟩ : ∃ y : ItR, y = ⟨num, z, 0, false⟩ := ⟨_, rfl⟩
 rw [← hy] at kp9
 have gq9 : w.heap.size ≤ p9 := Nat.le_trans m1.size gp9
 have HZ := Lib.hid (And.intro hy (And.intro hzc (And.intro hzn (And.intro hz m3))))
 clear hr hzc hzn hzi hz hy kp5
 have HB3 := Lib.hid (HH.out.1.mod0 HZ.out.2.2.2.2)
 go_upto_region 4 with fail
 have Lkb := lt_size kb
 have Lkp9 := lt_size kp9
 refine wp_pass (C := fun _ _ v => v = .tuple #[.int .i64 0, .int .i64 3]) (κ := fun i => [0, 0, 0, 0, 1, 1, 2, 0, 0, 0, 0, 0].getD i 0) [0, 1, 2, 3, 4, 5, 6, 7, 8, 9, 10, 11] (by kernel_rfl) (by kernel_rfl) (fun _ _ d _ _ h => by cases d <;> first | exact h | exact absurd h (hP _ _ _)) ?_
 (refine TD.val0 (v := ?v89) (by simp only [zK]; rfl) rfl (by rfl) (fun w1 => ?y89) ?n89; (case y89 => go_simp; try with_reducible rfl); try simp only [Act.put, zL])
 (refine TD.val0 (v := ?v90) (by simp only [zK]; rfl) rfl (by rfl) (fun w1 => ?y90) ?n90; (case y90 => go_simp; try with_reducible rfl); try simp only [Act.put, zL])
 (refine TD.val0 (v := ?v91) (by simp only [zK]; rfl) rfl (by rfl) (fun w1 => ?y91) ?n91; (case y91 => go_simp; try with_reducible rfl); try simp only [Act.put, zL])
 (refine TD.val0 (v := ?v92) (by simp only [zK]; rfl) rfl (by rfl) (fun w1 => ?y92) ?n92; (case y92 => go_simp; try with_reducible rfl); try simp only [Act.put, zL])
 (refine TD.load (v := ?v93) (p := ?p93) (Mod.refl _ _) (by simp only [zK]; rfl) rfl (by rfl) rfl ?hx93 (fun wq hSq => ?y93) ?n93; (case hx93 => simp only [Act.eval, zM]; try rfl); (case y93 => (have kbq := hSq.at kb (fun h => h); have kp9q := hSq.at kp9 (fun h => h); go_simp; (try with_reducible rfl))); try simp only [Act.put, zL])
 (refine TD.load (v := ?v94) (p := ?p94) (Mod.refl _ _) (by simp only [zK]; rfl) rfl (by rfl) rfl ?hx94 (fun wq hSq => ?y94) ?n94; (case hx94 => simp only [Act.eval, zM]; try rfl); (case y94 => (have kbq := hSq.at kb (fun h => h); have kp9q := hSq.at kp9 (fun h => h); go_simp; (try with_reducible rfl))); try simp only [Act.put, zL])
 (refine TD.call (f := ?f95) (args := ?r95) (Mod.refl _ _) (by simp only [zK]; rfl) rfl (by rfl) (fun w1 => ?y95) ?hsp95 ?n95; (case y95 => (go_simp; (first | with_reducible rfl | (constructor <;> with_reducible rfl)))); (case hsp95 => (intro wq hSq; have kbq := hSq.at kb (fun h => h); have kp9q := hSq.at kp9 (fun h => h); exact (sputN_c (HB3.out.mod0 hSq).sat HH.out.2.2.2.2.2.1 y).mono (fun e w' h => ⟨_, h.1, rfl, h.2⟩))); rintro _ rfl; try simp only [Act.put, zL])
 (refine TD.val0 (v := ?v96) (by simp only [zK]; rfl) rfl (by rfl) (fun w1 => ?y96) ?n96; (case y96 => go_simp; try with_reducible rfl); try simp only [Act.put, zL])
 (refine TD.val0 (v := ?v97) (by simp only [zK]; rfl) rfl (by rfl) (fun w1 => ?y97) ?n97; (case y97 => go_simp; try with_reducible rfl); try simp only [Act.put, zL])
 (refine TD.val0 (v := ?v98) (by simp only [zK]; rfl) rfl (by rfl) (fun w1 => ?y98) ?n98; (case y98 => go_simp; try with_reducible rfl); try simp only [Act.put, zL])
 (refine TD.val0 (v := ?v99) (by simp only [zK]; rfl) rfl (by rfl) (fun w1 => ?y99) ?n99; (case y99 => go_simp; try with_reducible rfl); try simp only [Act.put, zL])
 (refine TD.val0 (v := ?v100) (by simp only [zK]; rfl) rfl (by rfl) (fun w1 => ?y100) ?n100; (case y100 => go_simp; try with_reducible rfl); try simp only [Act.put, zL])
 refine TD.nil (fun w4 hr => ?_)
 have kb := hr.mod.at kb (fun h => h)
 have kp9 := hr.mod.at kp9 (fun h => h)
 have m4 := m3.then0 hr.mod
 have n4 := hr.mod
 clear hr
 go_upto_region 6 with fail
 have Lkb := lt_size kb
 have Lkp9 := lt_size kp9
 refine wp_pass0 (C := fun _ _ v => v = .tuple #[.agg (rkc x'.rk), .int .i64 (i : Int), .bool true]) (κ := fun i => [0, 0, 0, 0, 1, 2, 0, 0, 0, 0, 3, 4, 0, 0].getD i 0) [0, 1, 2, 3, 4, 5, 6, 7, 8, 9, 10, 11, 12, 13] (by kernel_rfl) (by kernel_rfl) (fun _ _ d _ _ h => by cases d <;> first | exact h | exact absurd h (hP _ _ _)) ?_
 (refine TD.val0 (v := ?v101) (by simp only [zK]; rfl) rfl (by rfl) (fun w1 => ?y101) ?n101; (case y101 => go_simp; try with_reducible rfl); try simp only [Act.put, zL])
 (refine TD.val0 (v := ?v102) (by simp only [zK]; rfl) rfl (by rfl) (fun w1 => ?y102) ?n102; (case y102 => go_simp; try with_reducible rfl); try simp only [Act.put, zL])
 (refine TD.val0 (v := ?v103) (by simp only [zK]; rfl) rfl (by rfl) (fun w1 => ?y103) ?n103; (case y103 => go_simp; try with_reducible rfl); try simp only [Act.put, zL])
 (refine TD.val0 (v := ?v104) (by simp only [zK]; rfl) rfl (by rfl) (fun w1 => ?y104) ?n104; (case y104 => go_simp; try with_reducible rfl); try simp only [Act.put, zL])
 (refine TD.load (v := ?v105) (p := ?p105) (Mod.refl _ _) (by simp only [zK]; rfl) rfl (by rfl) rfl ?hx105 (fun wq hSq => ?y105) ?n105; (case hx105 => simp only [Act.eval, zM]; try rfl); (case y105 => (have kbq := hSq.at kb (fun h => h); have kp9q := hSq.at kp9 (fun h => h); go_simp; (try with_reducible rfl))); try simp only [Act.put, zL])
 (refine TD.call (f := ?f106) (args := ?r106) (Mod.refl _ _) (by simp only [zK]; rfl) rfl (by rfl) (fun w1 => ?y106) ?hsp106 ?n106; (case y106 => (go_simp; (first | with_reducible rfl | (constructor <;> with_reducible rfl)))); (case hsp106 => (intro wq hSq; have kbq := hSq.at kb (fun h => h); have kp9q := hSq.at kp9 (fun h => h); exact (HBT.out wq (m4.then0 hSq)).mono (fun e w' h => ⟨_, h.1, rfl, h.2⟩))); rintro _ rfl; try simp only [Act.put, zL])
 (refine TD.val0 (v := ?v107) (by simp only [zK]; rfl) rfl (by rfl) (fun w1 => ?y107) ?n107; (case y107 => go_simp; try with_reducible rfl); try simp only [Act.put, zL])
 (refine TD.val0 (v := ?v108) (by simp only [zK]; rfl) rfl (by rfl) (fun w1 => ?y108) ?n108; (case y108 => go_simp; try with_reducible rfl); try simp only [Act.put, zL])
 (refine TD.val0 (v := ?v109) (by simp only [zK]; rfl) rfl (by rfl) (fun w1 => ?y109) ?n109; (case y109 => go_simp; try with_reducible rfl); try simp only [Act.put, zL])
 (refine TD.val0 (v := ?v110) (by simp only [zK]; rfl) rfl (by rfl) (fun w1 => ?y110) ?n110; (case y110 => go_simp; try with_reducible rfl); try simp only [Act.put, zL])
 (refine TD.allocB (by simp only [zK]; rfl) rfl (by rfl) rfl rfl alRk (fun p10 hp10 => ?n111); try simp only [Act.put, zL])
 (refine TD.storeB (d := ?d112) (T := ?T112) (y := ?y112) (p := ?p112) (b := ?b112) (v := ?v112) (by simp only [zK]; rfl) rfl (by rfl) ?hd112 ?hop112 ?hev112 ?hx112 ?hb112 ?htag112 (fun w1 hb1 => ?hy112) ?hn112; (case hd112 => rfl); (case hop112 => rfl); (case hev112 => (simp only [Act.eval, zM]; (try rfl))); (case hx112 => simp only [Act.eval, zM]; try rfl); (case hb112 => first | exact Bx.set_same _ _ _ | (simp only [Bx.set_same]; rfl)); (case hy112 => (go_simp; (try first | with_reducible rfl | (rw [setCell_blk hb1]; rfl)))); try simp only [Act.put, zL])
 (refine TD.val0 (v := ?v113) (by simp only [zK]; rfl) rfl (by rfl) (fun w1 => ?y113) ?n113; (case y113 => go_simp; try with_reducible rfl); try simp only [Act.put, zL])
 (refine TD.val0 (v := ?v114) (by simp only [zK]; rfl) rfl (by rfl) (fun w1 => ?y114) ?n114; (case y114 => go_simp; try with_reducible rfl); try simp only [Act.put, zL])
 refine TD.nil (fun w5 hr => ?_)
 have kb := hr.mod.at kb (fun h => h)
 have kp9 := hr.mod.at kp9 (fun h => h)
 have kp10 := hr.box p10 _ (by first | exact Bx.set_same _ _ _ | (simp only [Bx.set_same]; rfl)); dsimp only [Value.cells] at kp10; obtain ⟨gp10, kp10⟩ := kp10
 have m5 := m4.then0 hr.mod
 have n5 := n4.then0 hr.mod
 have gq10 : w.heap.size ≤ p10 := Nat.le_trans m4.size gp10
 clear hr
 have hyr : y.rk = ⟨x.prio, num⟩ := by
  rw [HZ.out.1]
  show (⟨z.prio, num⟩ : Rk) = _
  have : z.con.prio = x.con.prio := by rw [HZ.out.2.1]
  rw [show z.prio = x.prio from this]
 have HA := Lib.hid (show Ahead y.rk x'.rk = false by rw [hyr]; exact HH.out.2.2.2.2.2.2)
 clear hyr
 go_upto_region 7 with fail
 have Lkp9 := lt_size kp9
 have Lkp10 := lt_size kp10
 refine wp_gpass (T0 := fun _ => False) (K := fun _ _ => True) (κ := fun i => [0, 0, 0, 0, 6, 0, 6, 0, 0].getD i 0) (υ := fun i => [[], [], [], [], [], [], [], [], []].getD i []) [0, 1, 2, 3, 4, 5, 6, 7, 8] (by kernel_rfl) (by kernel_rfl) (Good.true).cl (trivial) (fun _ h => h.elim) ?_
 have gK := Good.true
 (refine TG.v0 (v := ?v115) (by simp only [zK]; rfl) rfl (by rfl) (fun w1 => ?y115) ?n115; (case y115 => go_simp; try with_reducible rfl); try simp only [Act.put, zL])
 (refine TG.v0 (v := ?v116) (by simp only [zK]; rfl) rfl (by rfl) (fun w1 => ?y116) ?n116; (case y116 => go_simp; try with_reducible rfl); try simp only [Act.put, zL])
 (refine TG.v0 (v := ?v117) (by simp only [zK]; rfl) rfl (by rfl) (fun w1 => ?y117) ?n117; (case y117 => go_simp; try with_reducible rfl); try simp only [Act.put, zL])
 (refine TG.load (v := ?v118) (p := ?p118) (by simp only [zK]; rfl) rfl (by rfl) rfl ?hx118 (fun wq hSq => ?y118) ?n118; (case hx118 => simp only [Act.eval, zM]; try rfl); (case y118 => (have kp9q := hSq.at kp9 (fun h => h); have kp10q := hSq.at kp10 (fun h => h); go_simp; (try with_reducible rfl))); try simp only [Act.put, zL])
 (refine TG.callN (f := ?f119) (args := ?r119) (fun v => v = .agg (rkc y.rk)) gK (by simp only [zK]; rfl) rfl (by rfl) (fun w1 => ?y119) (fun T wq kq ltq hSq ub => ?hsp119) ?n119; (case y119 => (go_simp; (first | with_reducible rfl | (constructor <;> with_reducible rfl)))); (case hsp119 => (have kp9q := hSq.at kp9 (fun h => h); have kp10q := hSq.at kp10 (fun h => h); exact (irank_c y wq).mono (fun e w' h => ⟨_, h.1, rfl, h.2⟩))); rintro v119 hC; subst hC; try simp only [Act.put, zL])
 (refine TG.load (v := ?v120) (p := ?p120) (by simp only [zK]; rfl) rfl (by rfl) rfl ?hx120 (fun wq hSq => ?y120) ?n120; (case hx120 => simp only [Act.eval, zM]; try rfl); (case y120 => (have kp9q := hSq.at kp9 (fun h => h); have kp10q := hSq.at kp10 (fun h => h); go_simp; (try with_reducible rfl))); try simp only [Act.put, zL])
 (refine TG.callN (f := ?f121) (args := ?r121) (fun v => v = .bool false) gK (by simp only [zK]; rfl) rfl (by rfl) (fun w1 => ?y121) (fun T wq kq ltq hSq ub => ?hsp121) ?n121; (case y121 => (go_simp; (first | with_reducible rfl | (constructor <;> with_reducible rfl)))); (case hsp121 => (have kp9q := hSq.at kp9 (fun h => h); have kp10q := hSq.at kp10 (fun h => h); exact (aheadC y.rk x'.rk wq).mono (fun e w' h => by obtain ⟨v, h1, h2, h3⟩ := h; rw [HA.out] at h2; exact ⟨v, h1, h2, h3⟩))); rintro v121 hC; subst hC; try simp only [Act.put, zL])
 (refine TG.v0 (v := ?v122) (by simp only [zK]; rfl) rfl (by rfl) (fun w1 => ?y122) ?n122; (case y122 => go_simp; try with_reducible rfl); try simp only [Act.put, zL])
 (refine TG.v0 (v := ?v123) (by simp only [zK]; rfl) rfl (by rfl) (fun w1 => ?y123) ?n123; (case y123 => go_simp; try with_reducible rfl); try simp only [Act.put, zL])
 refine TG.nil (fun w6 ⟨TR, hr⟩ => ?_)
 have kp9 := hr.mod.at kp9 (fun h => h)
 have kp10 := hr.mod.at kp10 (fun h => h)
 clear gK
 have m6 := m5.then0 hr.mod
 clear hr
 go_wp2_with fail
 exact bodyPost_ret (results_tmp3 rfl _ _ _) rfl ⟨rfl, m6⟩
end
end Go.Proofs.YtdeghpmlhcaedaaGreatDoor
namespace Go.Proofs.YtdeghpmlhcaedaaGreatDoor
open Go.RowKit
open Go.ChangeMaps (setBlock)
theorem rkc1 (r : Rk) : (rkc r)[1]? = some (u64v r.n) := rfl
attribute [local go_sem ↓] wlItem ldItem stItem wlRdy ldRdy stRdy wlRk ldRk stRk eqRk eqRk2
attribute [local go_sem] cell_blk frozen_blk one_int one_bool one_ptr one_slice one_map Value.cells rkc_size rkc_all1 itr_size itr_all itr_one itr_one' itr_n itr_prio itr_pl itr_sent itr_n' itr_prio' itr_pl' itr_sent' itr_r zItem_size zItem_all zItem_one rdr_size rdr_all rdr_one rdr_one' zRk_sz rkc1
def nc (n : UInt64) : Array Value := #[u64v n]
theorem u64T : ElT Tryz.prog 70 32 nc 1 8 where
 u := Tryz.underlying70
 info := by
  obtain ⟨i0, hi, hz0, hz1, hz2⟩ := info_parts (show (Tryz.prog.info? 32).map (fun i => (i.zero, i.size, i.bytes)) = some (some (.int .u64 0), 1, 8) by kernel_rfl)
  exact ⟨i0, _, hi, hz0, hz1, hz2, rfl⟩
 pos := by omega
 size x := rfl
 one x u hu := by
  simp [nc] at hu
  subst hu
  rfl
theorem bsU64 (x : UInt64) (w : World) : (Instr.buildSlice 70 1 #[(0, u64v x)]).run Tryz.prog w = .ok (.slice (some ⟨w.heap.size, 0, none⟩) 1 1) (w.alloc (.cells (nc x) 32)) := by
 obtain ⟨i0, z, hi, hz, hz1, hz2, hz3⟩ := u64T.info
 refine run_buildSlice w _ _ 1 _ _ i0 _ Tryz.underlying70 hi hz (by rw [hz1]; omega) (by rw [hz1]; omega) ?_
 rw [hz1]
 show Instr.fill _ _ [(0, _)] = _
 rw [fill_cons (off := 0) (n := 1) rfl rfl (by simp)]
 show some (wr _ 0 (nc x).toList) = _
 rw [wr_whole (nc x) _ (by simp [nc, hz3])]
theorem full_free {S : List (Option It)} {i : Nat} (hf : S.countP Option.isSome = S.length) (hi : i < S.length) : FreeS (S.set i none) i := by
 refine ⟨List.getElem?_set_self hi, fun j hj => ?_⟩
 rw [List.getElem?_set_ne (by omega)]
 have h1 := List.countP_eq_length.1 hf
 have hj2 : j < S.length := by omega
 have h2 := h1 S[j] (List.getElem_mem hj2)
 have h3 := List.getElem?_eq_getElem hj2
 cases hc : S[j] with
 | none => rw [hc] at h2; cases h2
 | some y => rw [hc] at h3; exact ⟨y, h3⟩
section
variable {w0 w w' ws : World} {O : Nat → Prop} {b : Nat} {S : List (Option It)}
set_option maxRecDepth 20000 in
set_option maxHeartbeats 12800000 in
theorem addO_c (H : BH w0 O b S w) (h0 : 0 < w0.heap.size ∧ ¬ O 0) (ht : TabW w) (hf : S.countP Option.isSome = S.length) {D : List Nd} (hD : D.Perm (wtg 0 S)) (hS : Srt D) {i : Nat} {x' : It} (hx' : S[i]? = some (some x')) (hp' : x'.pl = 0) (hl : D.getLast? = some ⟨x'.rk, idn i⟩) {x : RdR} (hx : RdOk w x) (hs : RdSm x.con) (num : UInt64) (hA : Ahead ⟨x.prio, num⟩ x'.rk = true) :
  Calls Tryz.prog 11 #[ptrV b, u64v num, .agg (rdr x)] w fun e w' => ∃ v, e = .returned (.tuple #[.int .i64 (i : Int), v, .int .i64 0]) ∧ NewS nc 1 32 w.heap.size w' v [x'.n] ∧ ∃ T', BHo w0 O b (S.set i (some ⟨num, x.con, 0, false⟩)) T' w' ∧ ∀ g, v.ownBlock = some g → ¬ T' g := by
 obtain ⟨s, h, R, C, Ts, Th, Tr, HB, rfl, hperm, hT, m⟩ := H
 have kb := HB.kb
 rw [con_count, conS_len] at hf
 have hil : i < (conS R).length := (List.getElem?_eq_some_iff.1 hx').1
 have hsl := HB.sat.len
 rw [conS_len] at hil
 have hid : (idn i).toInt = (i : Int) := idn_toInt (by omega)
 have hbot : ∀ wq, Mod (fun _ => False) w wq → Calls Tryz.prog 38 #[ptrV h] wq fun e w' => e = .returned (.tuple #[.agg (rkc x'.rk), .int .i64 (i : Int), .bool true]) ∧ Mod (fun _ => False) wq w' := fun wq hq => by
  have hb := botS_c (HB.mod0 hq).hat (hD.trans hperm.symm) hS
  rw [hl] at hb
  have hv : env (enOf (some ⟨x'.rk, idn i⟩)) = .tuple #[.agg (rkc x'.rk), .int .i64 (i : Int), .bool true] := by
   show env ⟨x'.rk, idn i, true⟩ = _
   unfold env
   rw [hid]
  rw [hv] at hb
  exact hb
 have HBT := Lib.hid hbot
 obtain ⟨y', hy', hyc⟩ := con_at hx'
 have hp2 : y'.pl = 0 := UInt8.toNat_inj.1 (by rw [← hyc] at hp'; exact hp')
 have hff : FreeS (conS (R.set i none)) i := by rw [con_setN]; exact full_free (by rw [con_count, conS_len]; exact hf) (by rw [conS_len]; exact hil)
 have hyr' : y'.rk = x'.rk := by rw [← hyc]; rfl
 have HH := Lib.hid (And.intro HB (And.intro hperm (And.intro hT (And.intro m (And.intro hf (And.intro hf hA))))))
 have HX := Lib.hid (And.intro hx hs)
 have HY := Lib.hid (And.intro hy' (And.intro hp2 (And.intro hff (And.intro hil (And.intro hyr' (And.intro h0 ht))))))
 clear HB hperm hT m hx hs hf hD hbot hS hx' hl hA hil hsl hid hy' hyc hp' hp2 hff hyr' h0 ht
 go_enter Tryz.func11, Tryz.ntmps11
 go_upto_region 0 with fail
 have Lkb := lt_size kb
 refine wp_pass0 (C := fun _ _ _ => False) (κ := fun i => [3, 0, 0, 0].getD i 0) [0, 1, 2, 3] (by kernel_rfl) (by kernel_rfl) (fun _ _ d _ _ h => by cases d <;> first | exact h | exact absurd h (hP _ _ _)) ?_
 (refine TD.box (v := ?v1) (by simp only [zK]; rfl) rfl (by rfl) rfl rfl ?hx1 (fun p5 hp5 => ?n1); (case hx1 => simp only [Act.eval, zM]; try rfl); try simp only [Act.put, zL])
 (refine TD.val0 (v := ?v2) (by simp only [zK]; rfl) rfl (by rfl) (fun w1 => ?y2) ?n2; (case y2 => go_simp; try with_reducible rfl); try simp only [Act.put, zL])
 (refine TD.val0 (v := ?v3) (by simp only [zK]; rfl) rfl (by rfl) (fun w1 => ?y3) ?n3; (case y3 => go_simp; try with_reducible rfl); try simp only [Act.put, zL])
 (refine TD.val0 (v := ?v4) (by simp only [zK]; rfl) rfl (by rfl) (fun w1 => ?y4) ?n4; (case y4 => go_simp; try with_reducible rfl); try simp only [Act.put, zL])
 refine TD.nil (fun w1 hr => ?_)
 have kb := hr.mod.at kb (fun h => h)
 have kp5 := hr.box p5 _ (by first | exact Bx.set_same _ _ _ | (simp only [Bx.set_same]; rfl)); dsimp only [Value.cells] at kp5; obtain ⟨gp5, kp5⟩ := kp5
 have m1 := hr.mod
 clear hr
 go_wp2_with fail
 go_at_call 35
 refine (bthere_c kb).mono ?_
 rintro e w2 ⟨rfl, rfl⟩
 go_upto_region 3 with fail
 have Lkb := lt_size kb
 have Lkp5 := lt_size kp5
 refine wp_gpass0 (T0 := fun _ => False) (K := fun _ _ => True) (κ := fun i => [0, 0, 6, 0, 3, 4].getD i 0) (υ := fun i => [[], [], [], [], [], []].getD i []) [0, 1, 2, 3, 4, 5] (by kernel_rfl) (by kernel_rfl) (Good.true).cl (trivial) (fun _ h => h.elim) ?_
 have gK := Good.true
 (refine TG.v0 (v := ?v5) (by simp only [zK]; rfl) rfl (by rfl) (fun w1 => ?y5) ?n5; (case y5 => go_simp; try with_reducible rfl); try simp only [Act.put, zL])
 (refine TG.load (v := ?v6) (p := ?p6) (by simp only [zK]; rfl) rfl (by rfl) rfl ?hx6 (fun wq hSq => ?y6) ?n6; (case hx6 => simp only [Act.eval, zM]; try rfl); (case y6 => (have kbq := hSq.at kb (fun h => h); have kp5q := hSq.at kp5 (fun h => h); go_simp; (try with_reducible rfl))); try simp only [Act.put, zL])
 (refine TG.callM (f := ?f7) (args := ?r7) (RdL w.heap.size x.con) (goodRd w.heap.size x.con) gK (by simp only [zK]; rfl) rfl (by rfl) (fun w1 => ?y7) (fun T wq kq ltq hSq ub => ?hsp7) ?n7; (case y7 => (go_simp; (first | with_reducible rfl | (constructor <;> with_reducible rfl)))); (case hsp7 => (have kbq := hSq.at kb (fun h => h); have kp5q := hSq.at kp5 (fun h => h); exact freshL (x := x) w.heap.size (m1.then0 hSq).size T (HX.out.1.mod0 (m1.then0 hSq)) HX.out.2)); rintro v7 ⟨wI, TI, hI⟩; replace gK := gK.and ((goodRd w.heap.size x.con) v7); (obtain ⟨_, z0, rfl, _⟩ := hI.k); (try clear hI TI wI); try simp only [Act.put, zL])
 (refine TG.build (v := ?v8) (ps := ?p8) (by simp only [zK]; rfl) rfl (by rfl) rfl ?hx8 (fun w1 => ?y8) ?n8; (case hx8 => (simp only [List.map_toArray, List.map_cons, List.map_nil, Act.eval, zM]; (try rfl))); (case y8 => (rw [(bldItem num z0)]; (try with_reducible rfl))); try simp only [Act.put, zL])
 (refine TG.allocB (by simp only [zK]; rfl) rfl (by rfl) rfl rfl alItem (fun p9 hp9 _ => ?n9); try simp only [Act.put, zL])
 (refine TG.storeB (d := ?d10) (T := ?T10) (y := ?y10) (p := ?p10) (b := ?b10) (v := ?v10) (by simp only [zK]; rfl) rfl (by rfl) ?hd10 ?hop10 ?hev10 ?hx10 ?hb10 ?htag10 (fun w1 hb1 => ?hy10) ?hn10; (case hd10 => rfl); (case hop10 => rfl); (case hev10 => (simp only [Act.eval, zM]; (try rfl))); (case hx10 => simp only [Act.eval, zM]; try rfl); (case hb10 => first | exact Bx.set_same _ _ _ | (simp only [Bx.set_same]; rfl)); (case htag10 => rfl); (case hy10 => (go_simp; (try first | with_reducible rfl | (rw [setCell_blk hb1]; rfl)))); try simp only [Act.put, zL])
 refine TG.nil (fun w3 ⟨TR, hr⟩ => ?_)
 have kb := hr.mod.at kb (fun h => h)
 have kp5 := hr.mod.at kp5 (fun h => h)
 have kp9 := hr.box p9 _ (by first | exact Bx.set_same _ _ _ | (simp only [Bx.set_same]; rfl)); dsimp only [Value.cells] at kp9; obtain ⟨gp9, nTp9, kp9⟩ := kp9
 clear gK
 obtain ⟨_, z, hz, hzc, hzn, hzi⟩ := hr.k
 injection hz with hz
 rw [itr_congr hz] at kp9
 have m3 := m1.then0 hr.mod
 obtain ⟨y, hy⟩ : ∃ y : ItR, y = ⟨num, z, 0, false⟩ := ⟨_, rfl⟩
 rw [← hy] at kp9
 have gq9 : w.heap.size ≤ p9 := Nat.le_trans m1.size gp9
 have HZ := Lib.hid (And.intro hy (And.intro hzc (And.intro hzn (And.intro hz m3))))
 clear hr hzc hzn hzi hz hy kp5
 have HB3 := Lib.hid (HH.out.1.mod0 HZ.out.2.2.2.2)
 go_upto_region 4 with fail
 have Lkb := lt_size kb
 have Lkp9 := lt_size kp9
 refine wp_pass (C := fun _ _ v => v = .tuple #[.int .i64 0, .int .i64 3]) (κ := fun i => [0, 0, 0, 0, 1, 1, 2, 0, 0, 0, 0, 0].getD i 0) [0, 1, 2, 3, 4, 5, 6, 7, 8, 9, 10, 11] (by kernel_rfl) (by kernel_rfl) (fun _ _ d _ _ h => by cases d <;> first | exact h | exact absurd h (hP _ _ _)) ?_
 (refine TD.val0 (v := ?v11) (by simp only [zK]; rfl) rfl (by rfl) (fun w1 => ?y11) ?n11; (case y11 => go_simp; try with_reducible rfl); try simp only [Act.put, zL])
 (refine TD.val0 (v := ?v12) (by simp only [zK]; rfl) rfl (by rfl) (fun w1 => ?y12) ?n12; (case y12 => go_simp; try with_reducible rfl); try simp only [Act.put, zL])
 (refine TD.val0 (v := ?v13) (by simp only [zK]; rfl) rfl (by rfl) (fun w1 => ?y13) ?n13; (case y13 => go_simp; try with_reducible rfl); try simp only [Act.put, zL])
 (refine TD.val0 (v := ?v14) (by simp only [zK]; rfl) rfl (by rfl) (fun w1 => ?y14) ?n14; (case y14 => go_simp; try with_reducible rfl); try simp only [Act.put, zL])
 (refine TD.load (v := ?v15) (p := ?p15) (Mod.refl _ _) (by simp only [zK]; rfl) rfl (by rfl) rfl ?hx15 (fun wq hSq => ?y15) ?n15; (case hx15 => simp only [Act.eval, zM]; try rfl); (case y15 => (have kbq := hSq.at kb (fun h => h); have kp9q := hSq.at kp9 (fun h => h); go_simp; (try with_reducible rfl))); try simp only [Act.put, zL])
 (refine TD.load (v := ?v16) (p := ?p16) (Mod.refl _ _) (by simp only [zK]; rfl) rfl (by rfl) rfl ?hx16 (fun wq hSq => ?y16) ?n16; (case hx16 => simp only [Act.eval, zM]; try rfl); (case y16 => (have kbq := hSq.at kb (fun h => h); have kp9q := hSq.at kp9 (fun h => h); go_simp; (try with_reducible rfl))); try simp only [Act.put, zL])
 (refine TD.call (f := ?f17) (args := ?r17) (Mod.refl _ _) (by simp only [zK]; rfl) rfl (by rfl) (fun w1 => ?y17) ?hsp17 ?n17; (case y17 => (go_simp; (first | with_reducible rfl | (constructor <;> with_reducible rfl)))); (case hsp17 => (intro wq hSq; have kbq := hSq.at kb (fun h => h); have kp9q := hSq.at kp9 (fun h => h); exact (sputN_c (HB3.out.mod0 hSq).sat HH.out.2.2.2.2.2.1 y).mono (fun e w' h => ⟨_, h.1, rfl, h.2⟩))); rintro _ rfl; try simp only [Act.put, zL])
 (refine TD.val0 (v := ?v18) (by simp only [zK]; rfl) rfl (by rfl) (fun w1 => ?y18) ?n18; (case y18 => go_simp; try with_reducible rfl); try simp only [Act.put, zL])
 (refine TD.val0 (v := ?v19) (by simp only [zK]; rfl) rfl (by rfl) (fun w1 => ?y19) ?n19; (case y19 => go_simp; try with_reducible rfl); try simp only [Act.put, zL])
 (refine TD.val0 (v := ?v20) (by simp only [zK]; rfl) rfl (by rfl) (fun w1 => ?y20) ?n20; (case y20 => go_simp; try with_reducible rfl); try simp only [Act.put, zL])
 (refine TD.val0 (v := ?v21) (by simp only [zK]; rfl) rfl (by rfl) (fun w1 => ?y21) ?n21; (case y21 => go_simp; try with_reducible rfl); try simp only [Act.put, zL])
 (refine TD.val0 (v := ?v22) (by simp only [zK]; rfl) rfl (by rfl) (fun w1 => ?y22) ?n22; (case y22 => go_simp; try with_reducible rfl); try simp only [Act.put, zL])
 refine TD.nil (fun w4 hr => ?_)
 have kb := hr.mod.at kb (fun h => h)
 have kp9 := hr.mod.at kp9 (fun h => h)
 have m4 := m3.then0 hr.mod
 have n4 := hr.mod
 clear hr
 go_upto_region 6 with fail
 have Lkb := lt_size kb
 have Lkp9 := lt_size kp9
 refine wp_pass0 (C := fun _ _ v => v = .tuple #[.agg (rkc x'.rk), .int .i64 (i : Int), .bool true]) (κ := fun i => [0, 0, 0, 0, 1, 2, 0, 0, 0, 0, 3, 4, 0, 0].getD i 0) [0, 1, 2, 3, 4, 5, 6, 7, 8, 9, 10, 11, 12, 13] (by kernel_rfl) (by kernel_rfl) (fun _ _ d _ _ h => by cases d <;> first | exact h | exact absurd h (hP _ _ _)) ?_
 (refine TD.val0 (v := ?v23) (by simp only [zK]; rfl) rfl (by rfl) (fun w1 => ?y23) ?n23; (case y23 => go_simp; try with_reducible rfl); try simp only [Act.put, zL])
 (refine TD.val0 (v := ?v24) (by simp only [zK]; rfl) rfl (by rfl) (fun w1 => ?y24) ?n24; (case y24 => go_simp; try with_reducible rfl); try simp only [Act.put, zL])
 (refine TD.val0 (v := ?v25) (by simp only [zK]; rfl) rfl (by rfl) (fun w1 => ?y25) ?n25; (case y25 => go_simp; try with_reducible rfl); try simp only [Act.put, zL])
 (refine TD.val0 (v := ?v26) (by simp only [zK]; rfl) rfl (by rfl) (fun w1 => ?y26) ?n26; (case y26 => go_simp; try with_reducible rfl); try simp only [Act.put, zL])
 (refine TD.load (v := ?v27) (p := ?p27) (Mod.refl _ _) (by simp only [zK]; rfl) rfl (by rfl) rfl ?hx27 (fun wq hSq => ?y27) ?n27; (case hx27 => simp only [Act.eval, zM]; try rfl); (case y27 => (have kbq := hSq.at kb (fun h => h); have kp9q := hSq.at kp9 (fun h => h); go_simp; (try with_reducible rfl))); try simp only [Act.put, zL])
 (refine TD.call (f := ?f28) (args := ?r28) (Mod.refl _ _) (by simp only [zK]; rfl) rfl (by rfl) (fun w1 => ?y28) ?hsp28 ?n28; (case y28 => (go_simp; (first | with_reducible rfl | (constructor <;> with_reducible rfl)))); (case hsp28 => (intro wq hSq; have kbq := hSq.at kb (fun h => h); have kp9q := hSq.at kp9 (fun h => h); exact (HBT.out wq (m4.then0 hSq)).mono (fun e w' h => ⟨_, h.1, rfl, h.2⟩))); rintro _ rfl; try simp only [Act.put, zL])
 (refine TD.val0 (v := ?v29) (by simp only [zK]; rfl) rfl (by rfl) (fun w1 => ?y29) ?n29; (case y29 => go_simp; try with_reducible rfl); try simp only [Act.put, zL])
 (refine TD.val0 (v := ?v30) (by simp only [zK]; rfl) rfl (by rfl) (fun w1 => ?y30) ?n30; (case y30 => go_simp; try with_reducible rfl); try simp only [Act.put, zL])
 (refine TD.val0 (v := ?v31) (by simp only [zK]; rfl) rfl (by rfl) (fun w1 => ?y31) ?n31; (case y31 => go_simp; try with_reducible rfl); try simp only [Act.put, zL])
 (refine TD.val0 (v := ?v32) (by simp only [zK]; rfl) rfl (by rfl) (fun w1 => ?y32) ?n32; (case y32 => go_simp; try with_reducible rfl); try simp only [Act.put, zL])
 (refine TD.allocB (by simp only [zK]; rfl) rfl (by rfl) rfl rfl alRk (fun p10 hp10 => ?n33); try simp only [Act.put, zL])
 (refine TD.storeB (d := ?d34) (T := ?T34) (y := ?y34) (p := ?p34) (b := ?b34) (v := ?v34) (by simp only [zK]; rfl) rfl (by rfl) ?hd34 ?hop34 ?hev34 ?hx34 ?hb34 ?htag34 (fun w1 hb1 => ?hy34) ?hn34; (case hd34 => rfl); (case hop34 => rfl); (case hev34 => (simp only [Act.eval, zM]; (try rfl))); (case hx34 => simp only [Act.eval, zM]; try rfl); (case hb34 => first | exact Bx.set_same _ _ _ | (simp only [Bx.set_same]; rfl)); (case hy34 => (go_simp; (try first | with_reducible rfl | (rw [setCell_blk hb1]; rfl)))); try simp only [Act.put, zL])
 (refine TD.val0 (v := ?v35) (by simp only [zK]; rfl) rfl (by rfl) (fun w1 => ?y35) ?n35; (case y35 => go_simp; try with_reducible rfl); try simp only [Act.put, zL])
 (refine TD.val0 (v := ?v36) (by simp only [zK]; rfl) rfl (by rfl) (fun w1 => ?y36) ?n36; (case y36 => go_simp; try with_reducible rfl); try simp only [Act.put, zL])
 refine TD.nil (fun w5 hr => ?_)
 have kb := hr.mod.at kb (fun h => h)
 have kp9 := hr.mod.at kp9 (fun h => h)
 have kp10 := hr.box p10 _ (by first | exact Bx.set_same _ _ _ | (simp only [Bx.set_same]; rfl)); dsimp only [Value.cells] at kp10; obtain ⟨gp10, kp10⟩ := kp10
 have m5 := m4.then0 hr.mod
 have n5 := n4.then0 hr.mod
 have gq10 : w.heap.size ≤ p10 := Nat.le_trans m4.size gp10
 clear hr
 have hyr : y.rk = ⟨x.prio, num⟩ := by
  rw [HZ.out.1]
  show (⟨z.prio, num⟩ : Rk) = _
  have : z.con.prio = x.con.prio := by rw [HZ.out.2.1]
  rw [show z.prio = x.prio from this]
 have HA := Lib.hid (show Ahead y.rk x'.rk = true by rw [hyr]; exact HH.out.2.2.2.2.2.2)
 clear hyr
 go_upto_region 7 with fail
 have Lkp9 := lt_size kp9
 have Lkp10 := lt_size kp10
 have Lkb := lt_size kb
 refine wp_gpass (T0 := fun _ => False) (K := fun _ _ => True) (κ := fun i => [0, 0, 0, 0, 6, 0, 6, 0, 0].getD i 0) (υ := fun i => [[], [], [], [], [], [], [], [], []].getD i []) [0, 1, 2, 3, 4, 5, 6, 7, 8] (by kernel_rfl) (by kernel_rfl) (Good.true).cl (trivial) (fun _ h => h.elim) ?_
 have gK := Good.true
 (refine TG.v0 (v := ?v37) (by simp only [zK]; rfl) rfl (by rfl) (fun w1 => ?y37) ?n37; (case y37 => go_simp; try with_reducible rfl); try simp only [Act.put, zL])
 (refine TG.v0 (v := ?v38) (by simp only [zK]; rfl) rfl (by rfl) (fun w1 => ?y38) ?n38; (case y38 => go_simp; try with_reducible rfl); try simp only [Act.put, zL])
 (refine TG.v0 (v := ?v39) (by simp only [zK]; rfl) rfl (by rfl) (fun w1 => ?y39) ?n39; (case y39 => go_simp; try with_reducible rfl); try simp only [Act.put, zL])
 (refine TG.load (v := ?v40) (p := ?p40) (by simp only [zK]; rfl) rfl (by rfl) rfl ?hx40 (fun wq hSq => ?y40) ?n40; (case hx40 => simp only [Act.eval, zM]; try rfl); (case y40 => (have kp9q := hSq.at kp9 (fun h => h); have kp10q := hSq.at kp10 (fun h => h); have kbq := hSq.at kb (fun h => h); go_simp; (try with_reducible rfl))); try simp only [Act.put, zL])
 (refine TG.callN (f := ?f41) (args := ?r41) (fun v => v = .agg (rkc y.rk)) gK (by simp only [zK]; rfl) rfl (by rfl) (fun w1 => ?y41) (fun T wq kq ltq hSq ub => ?hsp41) ?n41; (case y41 => (go_simp; (first | with_reducible rfl | (constructor <;> with_reducible rfl)))); (case hsp41 => (have kp9q := hSq.at kp9 (fun h => h); have kp10q := hSq.at kp10 (fun h => h); have kbq := hSq.at kb (fun h => h); exact (irank_c y wq).mono (fun e w' h => ⟨_, h.1, rfl, h.2⟩))); rintro v41 hC; subst hC; try simp only [Act.put, zL])
 (refine TG.load (v := ?v42) (p := ?p42) (by simp only [zK]; rfl) rfl (by rfl) rfl ?hx42 (fun wq hSq => ?y42) ?n42; (case hx42 => simp only [Act.eval, zM]; try rfl); (case y42 => (have kp9q := hSq.at kp9 (fun h => h); have kp10q := hSq.at kp10 (fun h => h); have kbq := hSq.at kb (fun h => h); go_simp; (try with_reducible rfl))); try simp only [Act.put, zL])
 (refine TG.callN (f := ?f43) (args := ?r43) (fun v => v = .bool true) gK (by simp only [zK]; rfl) rfl (by rfl) (fun w1 => ?y43) (fun T wq kq ltq hSq ub => ?hsp43) ?n43; (case y43 => (go_simp; (first | with_reducible rfl | (constructor <;> with_reducible rfl)))); (case hsp43 => (have kp9q := hSq.at kp9 (fun h => h); have kp10q := hSq.at kp10 (fun h => h); have kbq := hSq.at kb (fun h => h); exact (aheadC y.rk x'.rk wq).mono (fun e w' h => by obtain ⟨v, h1, h2, h3⟩ := h; rw [HA.out] at h2; exact ⟨v, h1, h2, h3⟩))); rintro v43 hC; subst hC; try simp only [Act.put, zL])
 (refine TG.v0 (v := ?v44) (by simp only [zK]; rfl) rfl (by rfl) (fun w1 => ?y44) ?n44; (case y44 => go_simp; try with_reducible rfl); try simp only [Act.put, zL])
 (refine TG.v0 (v := ?v45) (by simp only [zK]; rfl) rfl (by rfl) (fun w1 => ?y45) ?n45; (case y45 => go_simp; try with_reducible rfl); try simp only [Act.put, zL])
 refine TG.nil (fun w6 ⟨TR, hr⟩ => ?_)
 have kp9 := hr.mod.at kp9 (fun h => h)
 have kp10 := hr.mod.at kp10 (fun h => h)
 have kb := hr.mod.at kb (fun h => h)
 clear gK
 have m6 := m5.then0 hr.mod
 have n6 := n5.then0 hr.mod
 clear hr
 have hb53 := bsU64 x'.rk.n
 go_upto_region 9 with fail
 have Lkb := lt_size kb
 have Lkp9 := lt_size kp9
 have Lkp10 := lt_size kp10
 refine wp_pass0 (C := fun _ _ _ => False) (κ := fun i => [0, 1, 3, 0].getD i 0) [0, 1, 2, 3] (by kernel_rfl) (by kernel_rfl) (fun _ _ d _ _ h => by cases d <;> first | exact h | exact absurd h (hP _ _ _)) ?_
 (refine TD.val0 (v := ?v46) (by simp only [zK]; rfl) rfl (by rfl) (fun w1 => ?y46) ?n46; (case y46 => go_simp; try with_reducible rfl); try simp only [Act.put, zL])
 (refine TD.load (v := ?v47) (p := ?p47) (Mod.refl _ _) (by simp only [zK]; rfl) rfl (by rfl) rfl ?hx47 (fun wq hSq => ?y47) ?n47; (case hx47 => simp only [Act.eval, zM]; try rfl); (case y47 => (have kbq := hSq.at kb (fun h => h); have kp9q := hSq.at kp9 (fun h => h); have kp10q := hSq.at kp10 (fun h => h); go_simp; (try with_reducible rfl))); try simp only [Act.put, zL])
 (refine TD.bslice (by simp only [zK]; rfl) rfl (by rfl) rfl rfl ?hx48 hb53 (fun p53 hp53 => ?n48); (case hx48 => (simp only [List.map_toArray, List.map_cons, List.map_nil, Act.eval, zM]; (try rfl))); try simp only [Act.put, zL])
 (refine TD.val0 (v := ?v49) (by simp only [zK]; rfl) rfl (by rfl) (fun w1 => ?y49) ?n49; (case y49 => go_simp; try with_reducible rfl); try simp only [Act.put, zL])
 refine TD.nil (fun w7 hr => ?_)
 have kb := hr.mod.at kb (fun h => h)
 have kp9 := hr.mod.at kp9 (fun h => h)
 have kp10 := hr.mod.at kp10 (fun h => h)
 have kp53 := hr.box p53 _ (by first | exact Bx.set_same _ _ _ | (simp only [Bx.set_same]; rfl)); dsimp only [Value.cells] at kp53; obtain ⟨gp53, kp53⟩ := kp53
 have m7 := m6.then0 hr.mod
 have n7 := n6.then0 hr.mod
 have gq53 : w.heap.size ≤ p53 := Nat.le_trans m6.size gp53
 clear hr hb53
 have hMb3 := bf_more (O := O) HH.out.1 HH.out.2.2.1 HH.out.2.2.2.1 HZ.out.2.2.2.2
 obtain ⟨Tq, hTq⟩ : ∃ Tq : Nat → Prop, Tq = (fun j => Tr j ∨ (w.heap.size ≤ j ∧ j < w3.heap.size)) := ⟨_, rfl⟩
 rw [← hTq] at hMb3
 have hMb : Bf w7 b s h R C Ts Th Tq ∧ (∀ j, Ts j ∨ Th j ∨ Tq j ∨ j = b → (O j ∨ w0.heap.size ≤ j) ∧ j < w7.heap.size) := ⟨hMb3.1.mod0 n7, fun j hj => by
  have h9 := hMb3.2 j (by rw [hTq] at hj; exact hj)
  exact ⟨h9.1, Nat.lt_of_lt_of_le h9.2 n7.size⟩⟩
 have hzq : RdIn Tq z := by rw [hTq]; exact HZ.out.2.2.1.inn.mono (fun i hi => .inr hi)
 have hq53 : ¬ Tq p53 := fun e => by rw [hTq] at e; have h3 := HZ.out.2.2.2.2.size; have h5 := n6.size; have h6 := gp53; rcases e with e | e; have := (HH.out.2.2.1 p53 (.inr (.inr (.inl e)))).2; omega; omega
 have hb53 : b ≠ p53 := fun e => by have := (HH.out.2.2.1 b (.inr (.inr (.inr rfl)))).2; omega
 have hlo : ∀ q, w.heap.size ≤ q → ¬ Ts q ∧ ¬ Th q := fun q hq => ⟨fun e => by have := (HH.out.2.2.1 q (.inl e)).2; omega, fun e => by have := (HH.out.2.2.1 q (.inr (.inl e))).2; omega⟩
 have H9 := hlo p9 gq9
 have H53 := hlo p53 gq53
 have HNE : Hid (¬ Ts 0 ∧ ¬ Th 0) := Lib.hid ⟨fun e => by have h1 := (hMb.2 0 (.inl e)).1; rcases h1 with h1 | h1; exact HY.out.2.2.2.2.2.1.2 h1; have := HY.out.2.2.2.2.2.1.1; omega, fun e => by have h1 := (hMb.2 0 (.inr (.inl e))).1; rcases h1 with h1 | h1; exact HY.out.2.2.2.2.2.1.2 h1; have := HY.out.2.2.2.2.2.1.1; omega⟩
 have HN := Lib.hid (And.intro H9 (And.intro H53 (And.intro m7 n7)))
 have HQ := Lib.hid (And.intro hzq (And.intro hq53 (And.intro hb53 hMb)))
 clear hzq hq53 hb53 hMb3 hTq
 clear hMb hlo H9 H53 m7 m6 m5 m4 m3 m1 n4 n5 n6 n7 kp10
 go_upto_region 10 with fail
 have Lkb := lt_size kb
 have Lkp9 := lt_size kp9
 have Lkp53 := lt_size kp53
 refine wp_pass0 (C := fun _ _ _ => False) (κ := fun i => [0, 0, 0, 0, 1, 0, 5].getD i 0) [0, 1, 2, 3, 4, 5, 6] (by kernel_rfl) (by kernel_rfl) (fun _ _ d _ _ h => by cases d <;> first | exact h | exact absurd h (hP _ _ _)) ?_
 (refine TD.val0 (v := ?v50) (by simp only [zK]; rfl) rfl (by rfl) (fun w1 => ?y50) ?n50; (case y50 => go_simp; try with_reducible rfl); try simp only [Act.put, zL])
 (refine TD.val0 (v := ?v51) (by simp only [zK]; rfl) rfl (by rfl) (fun w1 => ?y51) ?n51; (case y51 => go_simp; try with_reducible rfl); try simp only [Act.put, zL])
 (refine TD.val0 (v := ?v52) (by simp only [zK]; rfl) rfl (by rfl) (fun w1 => ?y52) ?n52; (case y52 => go_simp; try with_reducible rfl); try simp only [Act.put, zL])
 (refine TD.val0 (v := ?v53) (by simp only [zK]; rfl) rfl (by rfl) (fun w1 => ?y53) ?n53; (case y53 => go_simp; try with_reducible rfl); try simp only [Act.put, zL])
 (refine TD.load (v := ?v54) (p := ?p54) (Mod.refl _ _) (by simp only [zK]; rfl) rfl (by rfl) rfl ?hx54 (fun wq hSq => ?y54) ?n54; (case hx54 => simp only [Act.eval, zM]; try rfl); (case y54 => (have kbq := hSq.at kb (fun h => h); have kp9q := hSq.at kp9 (fun h => h); have kp53q := hSq.at kp53 (fun h => h); go_simp; (try with_reducible rfl))); try simp only [Act.put, zL])
 (refine TD.val0 (v := ?v55) (by simp only [zK]; rfl) rfl (by rfl) (fun w1 => ?y55) ?n55; (case y55 => go_simp; try with_reducible rfl); try simp only [Act.put, zL])
 refine TD.eff (by simp only [zK]; rfl) rfl (fun w8 hr => ?_)
 have kb := hr.mod.at kb (fun h => h)
 have kp9 := hr.mod.at kp9 (fun h => h)
 have kp53 := hr.mod.at kp53 (fun h => h)
 have m8 := hr.mod
 clear hr
 have hdrop8 := mi_drop (w0 := w0) (O := O) (i := i) (HQ.out.2.2.2.1.mod0 m8) HH.out.2.1 (fun j hj => ⟨(HQ.out.2.2.2.2 j hj).1, Nat.lt_of_lt_of_le (HQ.out.2.2.2.2 j hj).2 m8.size⟩) (HH.out.2.2.2.1.then0 (HN.out.2.2.1.then0 m8)) HY.out.1 HY.out.2.1
 (refine eff_callP (by simp only [zK]; rfl) (by rfl) ?y57 hdrop8 (fun wn hP => ?n57); (case y57 => (go_simp; (try (first | with_reducible rfl | (constructor <;> with_reducible rfl))))); try simp only [Act.put, zL])
 refine TE.nil ?_
 obtain ⟨C1, hM9, m9⟩ := hP
 have kb := hM9.bf.kb
 have kp9 := m9.at kp9 HN.out.1.2
 have kp53 := m9.at kp53 HN.out.2.1.2
 have hn8 : RdNew w.heap.size w8 z := HZ.out.2.2.1.mod0 (HN.out.2.2.2.then0 m8)
 have hzq := HQ.out.1
 have hlo : ∀ q, w.heap.size ≤ q → ¬ Ts q ∧ ¬ Th q := fun q hq => ⟨fun e => by have := (HH.out.2.2.1 q (.inl e)).2; omega, fun e => by have := (HH.out.2.2.1 q (.inr (.inl e))).2; omega⟩
 have HLO := Lib.hid hlo
 have HR9 := Lib.hid (And.intro (hn8.mod m9 hn8.inn (fun i hi => (hlo i hi.1).2)) (And.intro hzq (((HY.out.2.2.2.2.2.2.mod0 HN.out.2.2.1).mod0 m8).mod m9 HNE.out.2)))
 have HM9 := Lib.hid hM9
 clear hdrop8 hM9 m9 m8 hn8 hzq hlo
 go_upto_region 11 with fail
 have Lkb := lt_size kb
 have Lkp9 := lt_size kp9
 have Lkp53 := lt_size kp53
 refine wp_pass0 (C := fun _ _ _ => False) (κ := fun i => [0, 0, 0, 0, 1, 0, 5].getD i 0) [0, 1, 2, 3, 4, 5, 6] (by kernel_rfl) (by kernel_rfl) (fun _ _ d _ _ h => by cases d <;> first | exact h | exact absurd h (hP _ _ _)) ?_
 (refine TD.val0 (v := ?v58) (by simp only [zK]; rfl) rfl (by rfl) (fun w1 => ?y58) ?n58; (case y58 => go_simp; try with_reducible rfl); try simp only [Act.put, zL])
 (refine TD.val0 (v := ?v59) (by simp only [zK]; rfl) rfl (by rfl) (fun w1 => ?y59) ?n59; (case y59 => go_simp; try with_reducible rfl); try simp only [Act.put, zL])
 (refine TD.val0 (v := ?v60) (by simp only [zK]; rfl) rfl (by rfl) (fun w1 => ?y60) ?n60; (case y60 => go_simp; try with_reducible rfl); try simp only [Act.put, zL])
 (refine TD.val0 (v := ?v61) (by simp only [zK]; rfl) rfl (by rfl) (fun w1 => ?y61) ?n61; (case y61 => go_simp; try with_reducible rfl); try simp only [Act.put, zL])
 (refine TD.load (v := ?v62) (p := ?p62) (Mod.refl _ _) (by simp only [zK]; rfl) rfl (by rfl) rfl ?hx62 (fun wq hSq => ?y62) ?n62; (case hx62 => simp only [Act.eval, zM]; try rfl); (case y62 => (have kbq := hSq.at kb (fun h => h); have kp9q := hSq.at kp9 (fun h => h); have kp53q := hSq.at kp53 (fun h => h); go_simp; (try with_reducible rfl))); try simp only [Act.put, zL])
 (refine TD.val0 (v := ?v63) (by simp only [zK]; rfl) rfl (by rfl) (fun w1 => ?y63) ?n63; (case y63 => go_simp; try with_reducible rfl); try simp only [Act.put, zL])
 refine TD.eff (by simp only [zK]; rfl) rfl (fun w10 hr => ?_)
 have kb := hr.mod.at kb (fun h => h)
 have kp9 := hr.mod.at kp9 (fun h => h)
 have kp53 := hr.mod.at kp53 (fun h => h)
 have m10 := hr.mod
 clear hr
 have hfree := mi_free (HM9.out.mod0 m10) HY.out.1
 (refine eff_callP (by simp only [zK]; rfl) (by rfl) ?y65 hfree (fun wn hP => ?n65); (case y65 => (go_simp; (try (first | with_reducible rfl | (constructor <;> with_reducible rfl))))); try simp only [Act.put, zL])
 refine TE.nil ?_
 obtain ⟨hM11, m11⟩ := hP
 have kb := hM11.bf.kb
 have kp9 := m11.at kp9 HN.out.1.1
 have kp53 := m11.at kp53 HN.out.2.1.1
 have hn10 := HR9.out.1.mod0 m10
 have HR11 := Lib.hid (And.intro (hn10.mod m11 hn10.inn (fun i hi => (HLO.out i hi.1).1)) (And.intro HR9.out.2.1 ((HR9.out.2.2.mod0 m10).mod m11 HNE.out.1)))
 have HM11 := Lib.hid hM11
 clear hfree hM11 m11 m10 hn10
 go_upto_region 12 with fail
 have Lkb := lt_size kb
 have Lkp9 := lt_size kp9
 have Lkp53 := lt_size kp53
 refine wp_pass (C := fun _ _ _ => False) (κ := fun i => [0, 0, 0, 0, 1, 1, 5, 0, 0, 0, 0, 0].getD i 0) [0, 1, 2, 3, 4, 5, 6, 7, 8, 9, 10, 11] (by kernel_rfl) (by kernel_rfl) (fun _ _ d _ _ h => by cases d <;> first | exact h | exact absurd h (hP _ _ _)) ?_
 (refine TD.val0 (v := ?v66) (by simp only [zK]; rfl) rfl (by rfl) (fun w1 => ?y66) ?n66; (case y66 => go_simp; try with_reducible rfl); try simp only [Act.put, zL])
 (refine TD.val0 (v := ?v67) (by simp only [zK]; rfl) rfl (by rfl) (fun w1 => ?y67) ?n67; (case y67 => go_simp; try with_reducible rfl); try simp only [Act.put, zL])
 (refine TD.val0 (v := ?v68) (by simp only [zK]; rfl) rfl (by rfl) (fun w1 => ?y68) ?n68; (case y68 => go_simp; try with_reducible rfl); try simp only [Act.put, zL])
 (refine TD.val0 (v := ?v69) (by simp only [zK]; rfl) rfl (by rfl) (fun w1 => ?y69) ?n69; (case y69 => go_simp; try with_reducible rfl); try simp only [Act.put, zL])
 (refine TD.load (v := ?v70) (p := ?p70) (Mod.refl _ _) (by simp only [zK]; rfl) rfl (by rfl) rfl ?hx70 (fun wq hSq => ?y70) ?n70; (case hx70 => simp only [Act.eval, zM]; try rfl); (case y70 => (have kbq := hSq.at kb (fun h => h); have kp9q := hSq.at kp9 (fun h => h); have kp53q := hSq.at kp53 (fun h => h); go_simp; (try with_reducible rfl))); try simp only [Act.put, zL])
 (refine TD.load (v := ?v71) (p := ?p71) (Mod.refl _ _) (by simp only [zK]; rfl) rfl (by rfl) rfl ?hx71 (fun wq hSq => ?y71) ?n71; (case hx71 => simp only [Act.eval, zM]; try rfl); (case y71 => (have kbq := hSq.at kb (fun h => h); have kp9q := hSq.at kp9 (fun h => h); have kp53q := hSq.at kp53 (fun h => h); go_simp; (try with_reducible rfl))); try simp only [Act.put, zL])
 refine TD.eff (by simp only [zK]; rfl) rfl (fun w12 hr => ?_)
 have kb := hr.mod.at kb (fun h => h)
 have kp9 := hr.mod.at kp9 (fun h => h)
 have kp53 := hr.mod.at kp53 (fun h => h)
 have m12 := hr.mod
 clear hr
 have hput := mi_put (y := y) (HM11.out.mod0 m12) (HR11.out.2.2.mod0 m12) HY.out.2.2.1 (by rw [HZ.out.1]; exact (HR11.out.1.mod0 m12).ok) (by rw [HZ.out.1]; exact HR11.out.2.1) (by rw [HZ.out.1]; show RdSm z.con; rw [HZ.out.2.1]; exact HX.out.2)
 (refine eff_callP (by simp only [zK]; rfl) (by rfl) ?y73 hput (fun wn hP => ?n73); (case y73 => (go_simp; (try (first | with_reducible rfl | (constructor <;> with_reducible rfl))))); try simp only [Act.put, zL])
 (refine TE.val0 (v := ?v74) (by simp only [zK]; rfl) (by rfl) (fun w1 => ?y74) ?n74; (case y74 => go_simp; try with_reducible rfl); try simp only [Act.put, zL])
 (refine TE.val0 (v := ?v75) (by simp only [zK]; rfl) (by rfl) (fun w1 => ?y75) ?n75; (case y75 => go_simp; try with_reducible rfl); try simp only [Act.put, zL])
 (refine TE.val0 (v := ?v76) (by simp only [zK]; rfl) (by rfl) (fun w1 => ?y76) ?n76; (case y76 => go_simp; try with_reducible rfl); try simp only [Act.put, zL])
 (refine TE.val0 (v := ?v77) (by simp only [zK]; rfl) (by rfl) (fun w1 => ?y77) ?n77; (case y77 => go_simp; try with_reducible rfl); try simp only [Act.put, zL])
 (refine TE.val0 (v := ?v78) (by simp only [zK]; rfl) (by rfl) (fun w1 => ?y78) ?n78; (case y78 => go_simp; try with_reducible rfl); try simp only [Act.put, zL])
 refine TE.nil ?_
 obtain ⟨hM13, m13⟩ := hP
 have kb := hM13.bf.kb
 have kp9 := m13.at kp9 HN.out.1.1
 have kp53 := m13.at kp53 HN.out.2.1.1
 have HM13 := Lib.hid hM13
 clear hput hM13 m13 m12
 go_upto_region 13 with fail
 have Lkb := lt_size kb
 have Lkp9 := lt_size kp9
 have Lkp53 := lt_size kp53
 refine wp_pass (C := fun _ _ v => v = .agg (rkc y.rk)) (κ := fun i => [0, 0, 0, 0, 1, 1, 2, 0, 5].getD i 0) [0, 1, 2, 3, 4, 5, 6, 7, 8] (by kernel_rfl) (by kernel_rfl) (fun _ _ d _ _ h => by cases d <;> first | exact h | exact absurd h (hP _ _ _)) ?_
 (refine TD.val0 (v := ?v79) (by simp only [zK]; rfl) rfl (by rfl) (fun w1 => ?y79) ?n79; (case y79 => go_simp; try with_reducible rfl); try simp only [Act.put, zL])
 (refine TD.val0 (v := ?v80) (by simp only [zK]; rfl) rfl (by rfl) (fun w1 => ?y80) ?n80; (case y80 => go_simp; try with_reducible rfl); try simp only [Act.put, zL])
 (refine TD.val0 (v := ?v81) (by simp only [zK]; rfl) rfl (by rfl) (fun w1 => ?y81) ?n81; (case y81 => go_simp; try with_reducible rfl); try simp only [Act.put, zL])
 (refine TD.val0 (v := ?v82) (by simp only [zK]; rfl) rfl (by rfl) (fun w1 => ?y82) ?n82; (case y82 => go_simp; try with_reducible rfl); try simp only [Act.put, zL])
 (refine TD.load (v := ?v83) (p := ?p83) (Mod.refl _ _) (by simp only [zK]; rfl) rfl (by rfl) rfl ?hx83 (fun wq hSq => ?y83) ?n83; (case hx83 => simp only [Act.eval, zM]; try rfl); (case y83 => (have kbq := hSq.at kb (fun h => h); have kp9q := hSq.at kp9 (fun h => h); have kp53q := hSq.at kp53 (fun h => h); go_simp; (try with_reducible rfl))); try simp only [Act.put, zL])
 (refine TD.load (v := ?v84) (p := ?p84) (Mod.refl _ _) (by simp only [zK]; rfl) rfl (by rfl) rfl ?hx84 (fun wq hSq => ?y84) ?n84; (case hx84 => simp only [Act.eval, zM]; try rfl); (case y84 => (have kbq := hSq.at kb (fun h => h); have kp9q := hSq.at kp9 (fun h => h); have kp53q := hSq.at kp53 (fun h => h); go_simp; (try with_reducible rfl))); try simp only [Act.put, zL])
 (refine TD.call (f := ?f85) (args := ?r85) (Mod.refl _ _) (by simp only [zK]; rfl) rfl (by rfl) (fun w1 => ?y85) ?hsp85 ?n85; (case y85 => (go_simp; (first | with_reducible rfl | (constructor <;> with_reducible rfl)))); (case hsp85 => (intro wq hSq; have kbq := hSq.at kb (fun h => h); have kp9q := hSq.at kp9 (fun h => h); have kp53q := hSq.at kp53 (fun h => h); exact (irank_c y wq).mono (fun e w' h => ⟨_, h.1, rfl, h.2⟩))); rintro _ rfl; try simp only [Act.put, zL])
 (refine TD.val0 (v := ?v86) (by simp only [zK]; rfl) rfl (by rfl) (fun w1 => ?y86) ?n86; (case y86 => go_simp; try with_reducible rfl); try simp only [Act.put, zL])
 refine TD.eff (by simp only [zK]; rfl) rfl (fun w14 hr => ?_)
 have kb := hr.mod.at kb (fun h => h)
 have kp9 := hr.mod.at kp9 (fun h => h)
 have kp53 := hr.mod.at kp53 (fun h => h)
 have m14 := hr.mod
 clear hr
 have hpush := mi_push (y := y) (HM13.out.mod0 m14) (List.getElem?_set_self (by rw [List.length_set]; exact HY.out.2.2.2.1)) (by rw [HZ.out.1])
 have hE : conS ((R.set i none).set i (some y)) = (conS R).set i (some ⟨num, x.con, 0, false⟩) := by
  rw [con_set, con_setN, List.set_set, HZ.out.1, ← HZ.out.2.1]
  rfl
 rw [hE] at hpush
 have hlt14 := lt_size kp53
 (refine eff_callP (by simp only [zK]; rfl) (by rfl) ?y88 hpush (fun wn hP => ?n88); (case y88 => (go_simp; (try (first | with_reducible rfl | (constructor <;> with_reducible rfl))))); try simp only [Act.put, zL])
 refine TE.nil ?_
 have kp53 := hP.2.at kp53 HN.out.2.1.2
 have HLT := Lib.hid hlt14
 clear hlt14
 have HF := Lib.hid hP
 clear hP hpush hE
 go_wp2_with fail
 refine bodyPost_ret (results_tmp3 rfl _ _ _) rfl ⟨_, rfl, .inr ⟨p53, nc x'.rk.n, rfl, gq53, kp53, fun j n hj => ?_⟩, HF.out.1.choose, HF.out.1.choose_spec.1, fun g hg e => ?_⟩
 rotate_left
 ·have hg2 : p53 = g := Option.some.inj hg
  subst hg2
  rcases HF.out.1.choose_spec.2 _ e with (h | h | h | h) | h
  ·exact HN.out.2.1.1 h
  ·exact HN.out.2.1.2 h
  ·exact HQ.out.2.1 h
  ·exact HQ.out.2.2.1 h.symm
  ·have := HLT.out; omega
 match j, hj with
 | 0, hj => cases hj; exact ⟨rfl, Nat.le_refl 1⟩
end
end Go.Proofs.YtdeghpmlhcaedaaGreatDoor
namespace Go.Proofs.YtdeghpmlhcaedaaGreatDoor
open Go.RowKit
open Go.ChangeMaps (setBlock)
attribute [local go_sem] cell_blk frozen_blk one_int one_bool one_ptr one_slice one_map Value.cells
abbrev parkF (B : Nat) : Value := .func (.func 51) #[] #[.pointer (some ⟨B, 0, none⟩)]
def Says (w : World) (B : Nat) (g : Nat → Prop) (L : List Int64) (p : Int64 → Bool) : Prop := ∀ wq, Mod g w wq → ∀ y ∈ L, Calls Tryz.prog 51 #[.int .i64 y.toInt, .pointer (some ⟨B, 0, none⟩)] wq fun e w' => e = .returned (.bool (p y)) ∧ Mod (fun _ => False) wq w'
theorem ic_row {w : World} {base : Nat} {v : Value} {L : List Int64} (h : SlOwn ic 1 3 w base v L) (hL : L ≠ []) :
  ∃ g cap cur, v = .slice (some ⟨g, 0, none⟩) L.length cap ∧ base ≤ g ∧ w.heap[g]? = some (.cells cur 3 (0, 0)) ∧ L.length ≤ cap ∧ cap ≤ maxLen ∧ cap = cur.size ∧ (∀ (i : Nat) (b : Int64), L[i]? = some b → cur[i]? = some (.int .i64 b.toInt)) := by
 obtain ⟨h0, h⟩ := h
 rcases h with ⟨_, hn⟩ | ⟨g, cap, cur, rfl, hb, hg, hnc, hcm, hcs, htake⟩
 ·exact absurd (List.eq_nil_of_length_eq_zero hn) hL
 ·rw [Nat.mul_one] at hcs htake
  refine ⟨g, cap, cur, rfl, hb, hg, hnc, hcm, hcs.symm, fun i b hi => ?_⟩
  rw [cellsOf_ic] at htake
  have h1 := congrArg (fun l => l[i]?) htake
  have hlt := (List.getElem?_eq_some_iff.1 hi).1
  simp only [List.getElem?_take, List.getElem?_map, hi, Option.map_some, if_pos hlt] at h1
  simpa using h1
set_option maxRecDepth 20000 in
set_option maxHeartbeats 1600000 in
theorem indexI_c {w : World} {base : Nat} {v : Value} {L : List Int64} (hO : SlOwn ic 1 3 w base v L) (hlen : L.length ≤ 1000000) {B : Nat} {p : Int64 → Bool} {T : Nat → Prop} (hp : Says w B T L p) :
  Calls Tryz.prog 75 #[v, parkF B] w fun e w' => Mod (fun _ => False) w w' ∧ ((e = .returned (.int .i64 (-1)) ∧ ∀ y ∈ L, p y = false) ∨ ∃ (i : Nat) (b : Int64), L[i]? = some b ∧ p b = true ∧ (∀ y ∈ L.take i, p y = false) ∧ e = .returned (.int .i64 (i : Int))) := by
 have hcell : ∀ (i : Nat) (y : Int64), L[i]? = some y → ∃ g cap cur, v = .slice (some ⟨g, 0, none⟩) L.length cap ∧ w.heap[g]? = some (.cells cur 3 (0, 0)) ∧ cur[i]? = some (.int .i64 y.toInt) := fun i y hy => by
  have hL : L ≠ [] := fun e => by rw [e] at hy; cases hy
  obtain ⟨g, cap, cur, e, _, kg, _, _, _, hc⟩ := ic_row hO hL
  exact ⟨g, cap, cur, e, kg, hc i y hy⟩
 obtain ⟨a, c, rfl, _⟩ := hO.at intT
 have HC := Lib.hid hcell
 have HP := Lib.hid hp
 clear hcell hO hp
 go_enter Tryz.func75, Tryz.ntmps75
 go_wp2_with fail
 go_loopw [8] (fun s8 ws => ∃ i : Nat, i ≤ L.length ∧ s8 = .int .i64 i ∧ Hid (∀ y ∈ L.take i, p y = false) ∧ Mod (fun _ => False) w ws) (fun s8 _ => L.length - (intOf s8).toNat)
 case atStart => exact ⟨0, Nat.zero_le _, rfl, Lib.hid (by simp), Mod.refl _ _⟩
 case round =>
  obtain ⟨i, hi, rfl, HN, hm⟩ := hrel
  by_cases hlt : i < L.length
  ·obtain ⟨y, hy⟩ : ∃ y, L[i]? = some y := ⟨_, List.getElem?_eq_getElem hlt⟩
   obtain ⟨g, cap, cur, e, kg0, hcx⟩ := HC.out i y hy
   cases e
   have kg := hm.at0 kg0
   have HY := Lib.hid hy
   have HM := Lib.hid hm
   clear hy kg0 hm
   go_wp2_with fail
   go_at_call 51
   refine (HP.out _ (HM.out.mono (fun _ _ h => h.elim)) y (List.mem_of_getElem? HY.out)).mono ?_
   rintro e w2 ⟨rfl, mc⟩
   have HM2 := Lib.hid (HM.out.then0 mc)
   clear mc
   cases hyb : p y with
   | true =>
    have HB := Lib.hid hyb
    clear hyb
    go_wp2_with fail
    go_ret
    exact ⟨HM2.out, .inr ⟨i, y, HY.out, HB.out, HN.out, rfl⟩⟩
   | false =>
    have HB := Lib.hid hyb
    clear hyb
    go_wp2_with fail
    go_roundw
    case rel =>
     refine ⟨i + 1, by omega, by go_num, Lib.hid ?_, HM2.out⟩
     rw [List.take_add_one, HY.out]
     intro z h
     rcases List.mem_append.1 h with h | h
     ·exact HN.out z h
     ·simp at h
      rw [h]
      exact HB.out
    case measure => simp [intOf]; omega
  ·obtain rfl : i = L.length := by omega
   go_wp2_with fail
   go_ret
   refine ⟨hm, .inl ⟨rfl, ?_⟩⟩
   have := HN.out
   rwa [List.take_length] at this
theorem zeroI (w : World) : (zeroValue 3).run Tryz.prog w = .ok (.int .i64 0) w := by kernel_rfl
theorem clearI_run {w : World} {g o n cap : Nat} {cur : Array Value} (hg : w.heap[g]? = some (.cells cur 3 (0, 0))) (hn : 0 < n) (hle : o + n ≤ cur.size) (ty : TypeId) : ∃ cur' w', (Builtin.clear_ #[79] ty #[.slice (some ⟨g, o, none⟩) n cap]).run Tryz.prog w = .ok (.tuple #[]) w' ∧ w'.heap[g]? = some (.cells cur' 3 (0, 0)) ∧ cur'.size = cur.size ∧ (∀ i, i < o → cur'[i]? = cur[i]?) ∧ Mod (fun i => i = g) w w' := by
 have hz : (Builtin.zeroCells (Value.int .i64 0).cells n).toList = List.replicate n (.int .i64 0) := by
  unfold Builtin.zeroCells
  apply List.ext_getElem
  ·simp [Value.cells]
  ·intro i h1 h2
   simp [Value.cells, Nat.mod_one]
 have hst := run_storeCells_at Tryz.prog g o 3 (List.replicate n (.int .i64 0)) 0 cur w hg (by simpa using hle) (fun v hv => by
  rw [List.eq_of_mem_replicate hv]
  rfl)
 refine ⟨(cur.toList.take o ++ List.replicate n (Value.int .i64 0) ++ cur.toList.drop (o + n)).toArray, w.setRow g (cur.toList.take o ++ List.replicate n (Value.int .i64 0) ++ cur.toList.drop (o + n)).toArray, ?_, setRow_heap w g cur _ _ _ hg, ?_, fun i hi => ?_, ?_⟩
 ·obtain ⟨m, rfl⟩ : ∃ m, n = m + 1 := ⟨n - 1, by omega⟩
  unfold Builtin.clear_
  simp [run_underlying Tryz.underlying79, zeroI, Result.andThen, hz, hst]
 ·simp only [List.size_toArray, List.length_append, List.length_take, List.length_drop, List.length_replicate, Array.length_toList]
  omega
 ·simp only [zA, List.append_assoc]
  rw [List.getElem?_append_left (by simp; omega), List.getElem?_take, if_pos (by omega)]
  simp
 ·refine ⟨rfl, rfl, rfl, ?_, fun i hi hne => ?_⟩
  ·simp [World.setRow]
  ·simp only [World.setRow]
   rw [Array.getElem?_modify, if_neg (fun e => hne e.symm)]
theorem ic_mk {w : World} {base g cap : Nat} {cur : Array Value} {L : List Int64} (hg : w.heap[g]? = some (.cells cur 3 (0, 0))) (hb : base ≤ g) (hc : L.length ≤ cap) (hm : cap ≤ maxLen) (hs : cap = cur.size) (h : ∀ (i : Nat) (b : Int64), L[i]? = some b → cur[i]? = some (.int .i64 b.toInt)) : SlOwn ic 1 3 w base (.slice (some ⟨g, 0, none⟩) L.length cap) L := by
 refine ⟨?_, .inr ⟨g, cap, cur, rfl, hb, hg, hc, hm, by omega, ?_⟩⟩
 ·rw [cellsOf_ic]; simp
 ·rw [cellsOf_ic, Nat.mul_one]
  apply List.ext_getElem?
  intro i
  rw [List.getElem?_take, List.getElem?_map]
  by_cases hi : i < L.length
  ·rw [if_pos hi, List.getElem?_eq_getElem hi]
   have := h i _ (List.getElem?_eq_getElem hi)
   simpa using this
  ·rw [if_neg hi, List.getElem?_eq_none (by omega)]
   rfl
set_option maxRecDepth 20000 in
set_option maxHeartbeats 3200000 in
theorem deleteI_c {w : World} {base : Nat} {v : Value} {L : List Int64} (hO : SlOwn ic 1 3 w base v L) (hlen : L.length ≤ 1000000) {B : Nat} {p : Int64 → Bool} (hp : Says w B (fun i => v.ownBlock = some i) L p) :
  Calls Tryz.prog 49 #[v, parkF B] w fun e w' => ∃ v', e = .returned v' ∧ SlOwn ic 1 3 w' base v' (L.filter fun y => !p y) ∧ Mod (fun i => v.ownBlock = some i) w w' := by
 have hidx := indexI_c hO hlen hp
 by_cases hL : ∀ y ∈ L, p y = false
 ·have hself : L.filter (fun y => !p y) = L := List.filter_eq_self.2 (fun y hy => by rw [hL y hy]; rfl)
  obtain ⟨a, c, rfl, _⟩ := hO.at intT
  have HI := Lib.hid hidx
  have HO := Lib.hid (And.intro hO hself)
  have HB := Lib.hid hL
  clear hidx hO hself hL hp
  go_enter Tryz.func49, Tryz.ntmps49
  go_wp2_with fail
  go_at_call 75
  refine HI.out.mono ?_
  rintro e w2 ⟨m2, ⟨rfl, h⟩ | ⟨i0, b, h1, h2, h3, rfl⟩⟩
  ·clear h
   go_wp2_with fail
   go_ret
   exact ⟨_, rfl, by rw [HO.out.2]; exact HO.out.1.mod m2 (fun _ _ h => h), m2.mono (fun _ _ h => h.elim)⟩
  ·have := HB.out b (List.mem_of_getElem? h1)
   rw [h2] at this
   cases this
 ·have hne : L ≠ [] := fun e => hL (fun y hy => by rw [e] at hy; cases hy)
  obtain ⟨g, cap, cur, rfl, hbg, kg, hcap, hmx, hcs, hcur⟩ := ic_row hO hne
  have HCu := Lib.hid hcur
  have HMX := Lib.hid (And.intro hmx (And.intro hbg hL))
  have HI := Lib.hid hidx
  have HCS := Lib.hid hcs
  have HP := Lib.hid hp
  clear hcs hidx hcur hO hmx hL hne hp hbg
  go_enter Tryz.func49, Tryz.ntmps49
  go_wp2_with fail
  go_at_call 75
  refine HI.out.mono ?_
  rintro e w2 ⟨m2, ⟨rfl, h⟩ | ⟨i0, b0, h1, h2, h3, rfl⟩⟩
  ·exact absurd h HMX.out.2.2
  have hi0 := (List.getElem?_eq_some_iff.1 h1).1
  have HX := Lib.hid (And.intro h1 (And.intro h2 h3))
  replace kg := m2.at0 kg
  have HM2 := Lib.hid m2
  clear h1 h2 h3 m2
  have hdm : ((i0 : Int) == -1) = false := by
   rw [beq_eq_false_iff_ne]
   omega
  go_wp2_with fail
  go_loopw [5, 6] (fun s5 s6 ws => ∃ (j i : Nat) (cur' : Array Value), s5 = .int .i64 i ∧ s6 = .int .i64 j ∧ i < j ∧ j ≤ L.length ∧ Hid (((L.take j).filter fun y => !p y).length = i) ∧ ws.heap[g]? = some (.cells cur' 3 (0, 0)) ∧ Hid (cur'.size = cur.size) ∧
   Hid (∀ (m : Nat) (y : Int64), ((L.take j).filter fun y => !p y)[m]? = some y → cur'[m]? = some (.int .i64 y.toInt)) ∧ Hid (∀ (m : Nat) (y : Int64), j ≤ m → L[m]? = some y → cur'[m]? = some (.int .i64 y.toInt)) ∧ Mod (fun i => i = g) w ws) (fun _ s6 _ => L.length - (intOf s6).toNat)
  case atStart =>
   have hf : (L.take (i0 + 1)).filter (fun y => !p y) = L.take i0 := by
    rw [List.take_add_one, HX.out.1, List.filter_append]
    have hself : (L.take i0).filter (fun y => !p y) = L.take i0 := List.filter_eq_self.2 (fun y hy => by rw [HX.out.2.2 y hy]; rfl)
    rw [hself]
    simp [HX.out.2.1]
   refine ⟨i0 + 1, i0, cur, rfl, by go_num, by omega, by omega, Lib.hid (by rw [hf, List.length_take]; omega), kg, Lib.hid rfl, Lib.hid (fun m y h => ?_), Lib.hid (fun m y _ h => HCu.out m y h), HM2.out.mono (fun _ _ h => h.elim)⟩
   rw [hf, List.getElem?_take] at h
   split at h
   ·exact HCu.out m y h
   ·cases h
  case round =>
   obtain ⟨j, i, cur', rfl, rfl, hij, hj, HF, kg', HS, HA, HR, hm⟩ := hrel
   by_cases hlt : j < L.length
   ·obtain ⟨y, hy⟩ : ∃ y, L[j]? = some y := ⟨_, List.getElem?_eq_getElem hlt⟩
    have hcx := HR.out j y (Nat.le_refl _) hy
    have HY := Lib.hid hy
    have hsz : i < cur'.size := by
     have := HS.out
     have := HCS.out
     omega
    have hci : ∃ u, cur'[i]? = some u := ⟨_, Array.getElem?_eq_getElem hsz⟩
    obtain ⟨u, hu⟩ := hci
    have HM := Lib.hid hm
    clear hy hm
    go_wp2_with fail
    go_at_call 51
    refine (HP.out _ (HM.out.mono (fun i _ h => by rw [h]; rfl)) y (List.mem_of_getElem? HY.out)).mono ?_
    rintro e w3 ⟨rfl, mc⟩
    have HM3 := Lib.hid (HM.out.then0 mc)
    replace kg' := mc.at0 kg'
    clear mc
    cases hyb : p y with
    | true =>
     have HB := Lib.hid hyb
     clear hyb
     go_wp2_with fail
     have hf : (L.take (j + 1)).filter (fun y => !p y) = (L.take j).filter (fun y => !p y) := by
      rw [List.take_add_one, HY.out, List.filter_append]
      simp [HB.out]
     have HFF := Lib.hid hf
     clear hf
     go_roundw
     case rel => exact ⟨j + 1, i, cur', rfl, by go_num, by omega, by omega, Lib.hid (by rw [HFF.out]; exact HF.out), kg', HS, Lib.hid (by rw [HFF.out]; exact HA.out), Lib.hid (fun m z h1 h2 => HR.out m z (by omega) h2), HM3.out⟩
     case measure => simp [intOf]; omega
    | false =>
     have HB := Lib.hid hyb
     clear hyb
     go_wp2_with fail
     have hf : (L.take (j + 1)).filter (fun y => !p y) = (L.take j).filter (fun y => !p y) ++ [y] := by
      rw [List.take_add_one, HY.out, List.filter_append]
      simp [HB.out]
     have HFF := Lib.hid hf
     have kg2 : (w3.setCell ⟨g, i, none⟩ (.int .i64 y.toInt)).heap[g]? = some (.cells (cur'.setIfInBounds i (.int .i64 y.toInt)) 3 (0, 0)) := by
      rw [setCell_blk kg', heap_setBlock _ _ (lt_size kg')]
     have hm2 : Mod (fun i => i = g) w (w3.setCell ⟨g, i, none⟩ (.int .i64 y.toInt)) := HM3.out.setCell _ (fun _ => rfl)
     have HK := Lib.hid (And.intro kg2 hm2)
     clear hf kg2 hm2
     go_roundw
     case rel =>
      refine ⟨j + 1, i + 1, cur'.setIfInBounds i (.int .i64 y.toInt), by go_num, by go_num, by omega, by omega, Lib.hid (by rw [HFF.out, List.length_append, HF.out]; rfl), HK.out.1, Lib.hid (by rw [Array.size_setIfInBounds]; exact HS.out), Lib.hid (fun m z h => ?_), Lib.hid (fun m z h1 h2 => ?_), HK.out.2⟩
      ·rw [HFF.out] at h
       rw [Array.getElem?_setIfInBounds]
       by_cases hmi : i = m
       ·rw [if_pos hmi, if_pos hsz]
        rw [List.getElem?_append_right (by rw [HF.out]; omega), HF.out, ← hmi, Nat.sub_self] at h
        simp at h
        rw [h]
       ·rw [if_neg hmi]
        have hml : m < i := by
         have := (List.getElem?_eq_some_iff.1 h).1
         rw [List.length_append, HF.out] at this
         simp at this
         omega
        rw [List.getElem?_append_left (by rw [HF.out]; exact hml)] at h
        exact HA.out m z h
      ·rw [Array.getElem?_setIfInBounds, if_neg (by omega)]
       exact HR.out m z (by omega) h2
     case measure => simp [intOf]; omega
   ·obtain rfl : j = L.length := by omega
    have hF := HF.out
    have hA := HA.out
    rw [List.take_length] at hF hA
    have HFA := Lib.hid (And.intro hF hA)
    have hs : L.length ≤ cur'.size := by have := HS.out; have := HCS.out; omega
    have hd := sl_drop intT (g := g) (o := 0) (cap := cap) (len := L.length) (k := i) (by omega) hcap
    have ht := sl_take intT (g := g) (o := 0) (cap := cap) (len := L.length) (k := i) (by omega)
    rw [if_neg (by omega)] at hd
    simp only [Nat.zero_add, Nat.mul_one] at hd
    obtain ⟨cur2, w4, hcl, kg4, hs4, hc4, m4⟩ := clearI_run (o := i) (n := L.length - i) (cap := cap - i) kg' (by omega) (by omega) 0
    have HC4 := Lib.hid (And.intro hs4 (And.intro hc4 m4))
    clear hF hA hs4 hc4 m4
    go_wp2_with fail
    go_ret
    have hm4 := hm.then HC4.out.2.2 (fun i _ e => e)
    refine ⟨_, rfl, ?_, hm4.mono (fun i _ e => by rw [e]; rfl)⟩
    rw [← HFA.out.1]
    refine ic_mk kg4 HMX.out.2.1 (by have := HFA.out.1; omega) HMX.out.1 (by rw [HC4.out.1, HS.out, ← HCS.out]) (fun m z h => ?_)
    have hml : m < i := by
     have h1 := (List.getElem?_eq_some_iff.1 h).1
     have h2 := HFA.out.1
     omega
    rw [HC4.out.2.1 m hml]
    exact HFA.out.2 m z h
end Go.Proofs.YtdeghpmlhcaedaaGreatDoor
namespace Go.Proofs.YtdeghpmlhcaedaaGreatDoor
open Go.RowKit
open Go.ChangeMaps (setBlock)
attribute [local go_sem ↓] wlItem ldItem stItem
attribute [local go_sem] cell_blk frozen_blk one_int one_bool one_ptr one_slice one_map Value.cells itr_size itr_all itr_one itr_one' itr_n itr_prio itr_pl itr_sent itr_n' itr_prio' itr_pl' itr_sent' zItem_size zItem_all zItem_one
theorem Bf.modT {w w' : World} {b s h : Nat} {R : List (Option ItR)} {C : List Nd} {Ts Th Tr T : Nat → Prop} (H : Bf w b s h R C Ts Th Tr) (hm : Mod T w w') (hT : ∀ i, Ts i ∨ Th i ∨ Tr i ∨ i = b → ¬ T i) : Bf w' b s h R C Ts Th Tr :=
 ⟨hm.at H.kb (hT b (.inr (.inr (.inr rfl)))), (SAt.good s R).cl Ts w w' H.sat (hm.mono (fun i _ e k => hT i (.inl k) e)), (HAt.good h C).cl Th w w' H.hat (hm.mono (fun i _ e k => hT i (.inr (.inl k)) e)), fun i y hy => ⟨(H.rd i y hy).1.mod hm (H.rd i y hy).2.1 (fun j hj => hT j (.inr (.inr (.inl hj)))), (H.rd i y hy).2⟩, H.dsh, H.drs, H.drh, H.db⟩
def isPk : Option (Option It) → Bool
 | some (some x) => x.pl == 2
 | _ => false
def pkd (S : List (Option It)) : List Nat := (List.range S.length).filter (fun i => isPk S[i]?)
theorem pkd_nums {R : List (Option ItR)} (hR : R.length ≤ 4096) : ((nums R R.length).map idn).filter (fun y => !(fun (z : Int64) => !isPk ((conS R)[z.toInt.toNat]?)) y) = (pkd (conS R)).map idn := by
 have h1 : ((nums R R.length).map idn).filter (fun y => !(fun (z : Int64) => !isPk ((conS R)[z.toInt.toNat]?)) y) = ((nums R R.length).filter (fun i => isPk ((conS R)[i]?))).map idn := by
  rw [List.filter_map]
  refine congrArg _ (List.filter_congr (fun i hi => ?_))
  have hi2 : i < R.length := List.mem_range.1 (List.mem_filter.1 hi).1
  simp only [Function.comp, Bool.not_not]
  rw [idn_toInt (by omega), Int.toNat_natCast]
 rw [h1]
 unfold nums pkd
 rw [conS_len, List.filter_filter]
 refine congrArg _ (List.filter_congr (fun i hi => ?_))
 cases hc : isPk (conS R)[i]? with
 | false => rfl
 | true =>
  rw [Bool.true_and]
  unfold isPk at hc
  split at hc
  ·rename_i x hx
   obtain ⟨y, hy, _⟩ := con_at hx
   exact occ_some hy
  ·cases hc
theorem u8_two (p : UInt8) : (!((p.toNat : Int) == 2)) = !(p.toNat == 2) := by
 congr 1
 by_cases h : p.toNat = 2
 ·rw [h]; rfl
 ·have h2 : ¬ ((p.toNat : Int) = 2) := by omega
  rw [beq_eq_false_iff_ne.2 h, beq_eq_false_iff_ne.2 h2]
set_option maxRecDepth 20000 in
set_option maxHeartbeats 3200000 in
theorem parked1_c {w : World} {b s h B i : Nat} {R : List (Option ItR)} {C : List Nd} {Ts Th Tr : Nat → Prop} (HB : Bf w b s h R C Ts Th Tr) (kB : w.heap[B]? = some (.cells #[ptrV b] 23 (0, 0))) {y : ItR} (hy : R[i]? = some (some y)) :
  Calls Tryz.prog 51 #[.int .i64 (i : Int), .pointer (some ⟨B, 0, none⟩)] w fun e w' => e = .returned (.bool (!(y.pl.toNat == 2))) ∧ Mod (fun _ => False) w w' := by
 have kb := HB.kb
 have h2 := u8_two y.pl
 have HH := Lib.hid (And.intro HB hy)
 rw [← h2]
 clear HB hy h2
 go_enter Tryz.func51, Tryz.ntmps51
 go_upto_region 1 with fail
 have Lkb := lt_size kb
 have LkB := lt_size kB
 refine wp_pass0 (C := fun _ _ v => v = .tuple #[.agg (itr y), .int .i64 0]) (κ := fun i => [1, 0, 0, 0, 1, 0, 2, 0, 0, 0, 3, 4, 0].getD i 0) [0, 1, 2, 3, 4, 5, 6, 7, 8, 9, 10, 11, 12] (by kernel_rfl) (by kernel_rfl) (fun _ _ d _ _ h => by cases d <;> first | exact h | exact absurd h (hP _ _ _)) ?_
 (refine TD.load (v := ?v1) (p := ?p1) (Mod.refl _ _) (by simp only [zK]; rfl) rfl (by rfl) rfl ?hx1 (fun wq hSq => ?y1) ?n1; (case hx1 => simp only [Act.eval, zM]; try rfl); (case y1 => (have kbq := hSq.at kb (fun h => h); have kBq := hSq.at kB (fun h => h); go_simp; (try with_reducible rfl))); try simp only [Act.put, zL])
 (refine TD.val0 (v := ?v2) (by simp only [zK]; rfl) rfl (by rfl) (fun w1 => ?y2) ?n2; (case y2 => go_simp; try with_reducible rfl); try simp only [Act.put, zL])
 (refine TD.val0 (v := ?v3) (by simp only [zK]; rfl) rfl (by rfl) (fun w1 => ?y3) ?n3; (case y3 => go_simp; try with_reducible rfl); try simp only [Act.put, zL])
 (refine TD.val0 (v := ?v4) (by simp only [zK]; rfl) rfl (by rfl) (fun w1 => ?y4) ?n4; (case y4 => go_simp; try with_reducible rfl); try simp only [Act.put, zL])
 (refine TD.load (v := ?v5) (p := ?p5) (Mod.refl _ _) (by simp only [zK]; rfl) rfl (by rfl) rfl ?hx5 (fun wq hSq => ?y5) ?n5; (case hx5 => simp only [Act.eval, zM]; try rfl); (case y5 => (have kbq := hSq.at kb (fun h => h); have kBq := hSq.at kB (fun h => h); go_simp; (try with_reducible rfl))); try simp only [Act.put, zL])
 (refine TD.val0 (v := ?v6) (by simp only [zK]; rfl) rfl (by rfl) (fun w1 => ?y6) ?n6; (case y6 => go_simp; try with_reducible rfl); try simp only [Act.put, zL])
 (refine TD.call (f := ?f7) (args := ?r7) (Mod.refl _ _) (by simp only [zK]; rfl) rfl (by rfl) (fun w1 => ?y7) ?hsp7 ?n7; (case y7 => (go_simp; (first | with_reducible rfl | (constructor <;> with_reducible rfl)))); (case hsp7 => (intro wq hSq; have kbq := hSq.at kb (fun h => h); have kBq := hSq.at kB (fun h => h); exact (sget_c (HH.out.1.mod0 hSq).sat HH.out.2).mono (fun e w' h => ⟨_, h.1, rfl, h.2⟩))); rintro _ rfl; try simp only [Act.put, zL])
 (refine TD.val0 (v := ?v8) (by simp only [zK]; rfl) rfl (by rfl) (fun w1 => ?y8) ?n8; (case y8 => go_simp; try with_reducible rfl); try simp only [Act.put, zL])
 (refine TD.val0 (v := ?v9) (by simp only [zK]; rfl) rfl (by rfl) (fun w1 => ?y9) ?n9; (case y9 => go_simp; try with_reducible rfl); try simp only [Act.put, zL])
 (refine TD.val0 (v := ?v10) (by simp only [zK]; rfl) rfl (by rfl) (fun w1 => ?y10) ?n10; (case y10 => go_simp; try with_reducible rfl); try simp only [Act.put, zL])
 (refine TD.allocB (by simp only [zK]; rfl) rfl (by rfl) rfl rfl alItem (fun p4 hp4 => ?n11); try simp only [Act.put, zL])
 (refine TD.storeB (d := ?d12) (T := ?T12) (y := ?y12) (p := ?p12) (b := ?b12) (v := ?v12) (by simp only [zK]; rfl) rfl (by rfl) ?hd12 ?hop12 ?hev12 ?hx12 ?hb12 ?htag12 (fun w1 hb1 => ?hy12) ?hn12; (case hd12 => rfl); (case hop12 => rfl); (case hev12 => (simp only [Act.eval, zM]; (try rfl))); (case hx12 => simp only [Act.eval, zM]; try rfl); (case hb12 => first | exact Bx.set_same _ _ _ | (simp only [Bx.set_same]; rfl)); (case hy12 => (go_simp; (try first | with_reducible rfl | (rw [setCell_blk hb1]; rfl)))); try simp only [Act.put, zL])
 (refine TD.val0 (v := ?v13) (by simp only [zK]; rfl) rfl (by rfl) (fun w1 => ?y13) ?n13; (case y13 => go_simp; try with_reducible rfl); try simp only [Act.put, zL])
 refine TD.nil (fun w1 hr => ?_)
 have kb := hr.mod.at kb (fun h => h)
 have kB := hr.mod.at kB (fun h => h)
 have kp4 := hr.box p4 _ (by first | exact Bx.set_same _ _ _ | (simp only [Bx.set_same]; rfl)); dsimp only [Value.cells] at kp4; obtain ⟨gp4, kp4⟩ := kp4
 have m1 := hr.mod
 clear hr
 go_wp2_with fail
 go_ret
 exact ⟨rfl, m1⟩
set_option maxRecDepth 20000 in
theorem clipInt_c (v2 : Value) (w : World) (n : Nat) {a : Option Addr} {c : Nat} (h : ∀ w2, (Instr.sliceAt 79 (.slice a n c) none (some (.int .i64 (n : Int))) (some (.int .i64 (n : Int)))).run Tryz.prog w2 = .ok v2 w2) :
  Calls Tryz.prog 48 #[.slice a n c] w fun e w' => e = .returned v2 ∧ w' = w := by
 go_enter Tryz.func48, Tryz.ntmps48
 go_wp2_with fail
 go_ret
 exact ⟨rfl, rfl⟩
theorem numsS_c {w : World} {s : Nat} {R : List (Option ItR)} {Ts : Nat → Prop} (hs : SAt s R Ts w) (hw : TabW w) : Calls Tryz.prog 50 #[ptrV s] w fun e w' => ∃ v, e = .returned v ∧ SlOwn ic 1 3 w' w.heap.size v ((nums R R.length).map idn) ∧ Mod (fun _ => False) w w' := by
 obtain ⟨g, u, cur, us, H, _⟩ := hs
 exact numbers_c H hw
set_option maxRecDepth 20000 in
set_option maxHeartbeats 3200000 in
theorem bparked_c {w0 w : World} {O : Nat → Prop} {b : Nat} {S : List (Option It)} (H : BH w0 O b S w) (ht : TabW w) : Calls Tryz.prog 19 #[ptrV b] w fun e w' => ∃ v, e = .returned v ∧ NewS ic 1 3 w.heap.size w' v ((pkd S).map idn) ∧ Mod (fun _ => False) w w' := by
 have hsl := H.len
 obtain ⟨s, h, R, C, Ts, Th, Tr, HB, rfl, hperm, hT, m⟩ := H
 have kb := HB.kb
 rw [conS_len] at hsl
 have HH := Lib.hid (And.intro HB (And.intro hT (And.intro hsl ht)))
 clear HB hperm hT m hsl ht
 go_enter Tryz.func19, Tryz.ntmps19
 go_upto_region 0 with fail
 have Lkb := lt_size kb
 refine wp_pass0 (C := fun _ _ _ => False) (κ := fun i => [3, 0].getD i 0) [0, 1] (by kernel_rfl) (by kernel_rfl) (fun _ _ d _ _ h => by cases d <;> first | exact h | exact absurd h (hP _ _ _)) ?_
 (refine TD.box (v := ?v14) (by simp only [zK]; rfl) rfl (by rfl) rfl rfl ?hx14 (fun p1 hp1 => ?n14); (case hx14 => simp only [Act.eval, zM]; try rfl); try simp only [Act.put, zL])
 (refine TD.val0 (v := ?v15) (by simp only [zK]; rfl) rfl (by rfl) (fun w1 => ?y15) ?n15; (case y15 => go_simp; try with_reducible rfl); try simp only [Act.put, zL])
 refine TD.nil (fun w1 hr => ?_)
 have kb := hr.mod.at kb (fun h => h)
 have kp1 := hr.box p1 _ (by first | exact Bx.set_same _ _ _ | (simp only [Bx.set_same]; rfl)); dsimp only [Value.cells] at kp1; obtain ⟨gp1, kp1⟩ := kp1
 have m1 := hr.mod
 clear hr
 go_wp2_with fail
 go_at_call 35
 refine (bthere_c kb).mono ?_
 rintro e w2 ⟨rfl, rfl⟩
 go_wp2_with fail
 go_at_call 50
 refine (numsS_c (HH.out.1.mod0 m1).sat (HH.out.2.2.2.mod0 m1)).mono ?_
 rintro e w3 ⟨v, rfl, hO, m3⟩
 have hsays : Says w3 p1 (fun i => v.ownBlock = some i) ((nums R R.length).map idn) (fun z => !isPk ((conS R)[z.toInt.toNat]?)) := by
  intro wq hq z hz
  obtain ⟨i, hi, rfl⟩ := List.mem_map.1 hz
  have hi2 := List.mem_filter.1 hi
  have hil : i < R.length := List.mem_range.1 hi2.1
  have hll := HH.out.2.2.1
  obtain ⟨y, hy⟩ : ∃ y, R[i]? = some (some y) := by
   have he := List.getElem?_eq_getElem hil
   cases hc : R[i] with
   | none =>
    rw [hc] at he
    have := occ_none he
    rw [hi2.2] at this
    cases this
   | some y => rw [hc] at he; exact ⟨y, he⟩
  have hown : ∀ j, v.ownBlock = some j → w2.heap.size ≤ j := fun j hj => (hO.lt j hj).1
  have h12 : w.heap.size ≤ w2.heap.size := m1.size
  have kp1q := hq.at (m3.at0 kp1) (fun e => by have := hown _ e; have := lt_size kp1; omega)
  have HBq := ((HH.out.1.mod0 m1).mod0 m3).modT hq (fun j hj e => by have h1 := hown j e; have h2 := (HH.out.2.1 j hj).2; omega)
  have hc := parked1_c HBq kp1q hy
  have hid : (idn i).toInt = (i : Int) := idn_toInt (by omega)
  have hpk : isPk (conS R)[i]? = (y.pl.toNat == 2) := by
   unfold conS
   rw [List.getElem?_map, hy]
   rfl
  show Calls Tryz.prog _ #[.int .i64 (idn i).toInt, _] wq fun e w' => e = .returned (.bool (!isPk (conS R)[(idn i).toInt.toNat]?)) ∧ _
  rw [hid, Int.toNat_natCast, hpk]
  exact hc
 have HS := Lib.hid (And.intro hsays (And.intro hO m3))
 clear hsays hO m3
 go_wp2_with fail
 go_at_call 49
 refine (deleteI_c HS.out.2.1 (by rw [List.length_map]; have h1 := List.length_filter_le (occ R) (List.range R.length); rw [List.length_range] at h1; have := HH.out.2.2.1; unfold nums; omega) HS.out.1).mono ?_
 rintro e w4 ⟨v4, rfl, hO4, m4⟩
 rw [pkd_nums HH.out.2.2.1.2] at hO4
 obtain ⟨PL, hPL⟩ : ∃ PL, PL = (pkd (conS R)).map idn := ⟨_, rfl⟩
 rw [← hPL] at hO4
 have HPL := Lib.hid hPL
 clear hPL
 obtain ⟨a5, c5, v5, rfl, hcl, hN5⟩ := SlOwn.clip intT hO4
 have HN := Lib.hid (And.intro hN5 m4)
 clear hO4 hN5 m4
 have hcl := clipInt_c v5 w4 _ hcl
 have HCL := Lib.hid hcl
 clear hcl
 go_wp2_with fail
 go_at_call 48
 refine HCL.out.mono ?_
 rintro e w5 ⟨rfl, rfl⟩
 go_wp2_with fail
 go_ret
 have hsz := m1.size
 refine ⟨_, rfl, by rw [← HPL.out]; exact HN.out.1.base hsz, (m1.then0 HS.out.2.2).then HN.out.2 (fun i hi e => ?_)⟩
 have := (HS.out.2.1.lt i e).1
 omega
end Go.Proofs.YtdeghpmlhcaedaaGreatDoor
namespace Go.Proofs.YtdeghpmlhcaedaaGreatDoor
open Go.RowKit
open Go.ChangeMaps (setBlock)
attribute [local go_sem ↓] wlItem ldItem stItem wlRdy ldRdy stRdy wlRk ldRk stRk eqRk eqRk2
attribute [local go_sem] cell_blk frozen_blk one_int one_bool one_ptr one_slice one_map Value.cells rkc_size rkc_all1 itr_size itr_all itr_one itr_one' itr_n itr_prio itr_pl itr_sent itr_n' itr_prio' itr_pl' itr_sent' itr_r zItem_size zItem_all zItem_one rdr_size rdr_all rdr_one rdr_one' zRk_sz rdr47 zRdy_size
def rolW : Role := ⟨key0, false, true⟩
def rdy (p : UInt64) (b : UInt8) : RdC := { rd0.con with b := [b], ro := [rolW], prio := p }
theorem bsByte (x : UInt8) (w : World) : (Instr.buildSlice 40 1 #[(0, u8v x)]).run Tryz.prog w = .ok (.slice (some ⟨w.heap.size, 0, none⟩) 1 1) (w.alloc (.cells (uc x) 5)) := by
 obtain ⟨i0, z, hi, hz, hz1, hz2, hz3⟩ := bytesT.info
 refine run_buildSlice w _ _ 1 _ _ i0 _ Tryz.underlying40 hi hz (by rw [hz1]; omega) (by rw [hz1]; omega) ?_
 rw [hz1]
 show Instr.fill _ _ [(0, _)] = _
 rw [fill_cons (off := 0) (n := 1) rfl rfl (by simp)]
 show some (wr _ 0 (uc x).toList) = _
 rw [wr_whole (uc x) _ (by simp [uc, hz3])]
theorem bsRole (x : Role) (w : World) : (Instr.buildSlice 53 1 #[(0, .agg (rcr x))]).run Tryz.prog w = .ok (.slice (some ⟨w.heap.size, 0, none⟩) 1 1) (w.alloc (.cells (rcr x) 91)) := by
 obtain ⟨i0, z, hi, hz, hz1, hz2, hz3⟩ := rolesT.info
 have hs : (rcr x).size = 34 := rc_size _ _ _
 refine run_buildSlice w _ _ 1 _ _ i0 _ Tryz.underlying53 hi hz (by rw [hz1]; omega) (by rw [hz1]; omega) ?_
 rw [hz1]
 show Instr.fill _ _ [(0, _)] = _
 rw [fill_cons (off := 0) (n := 34) rfl (by simp [Value.cells, hs]) (by simp)]
 show some (wr _ 0 (rcr x).toList) = _
 rw [wr_whole (rcr x) _ (by simp [hs, hz3])]
theorem bldRdy (p : UInt64) (a6 a9 : Nat) (b : UInt8) (r : Role) (w : World) : (Instr.build 57 #[(0, .slice (some ⟨a6, 0, none⟩) 1 1), (6, u64v p), (2, .slice (some ⟨a9, 0, none⟩) 1 1)]).run Tryz.prog w = .ok (.agg (rdr { rd0 with b := ⟨some ⟨a6, 0, none⟩, [b], 1⟩, prio := p, ro := ⟨some ⟨a9, 0, none⟩, [r], 1⟩ })) w := by
 refine run_build_struct (z := .agg zRdy) (places := #[(0, 1), (1, 40), (41, 1), (42, 3), (45, 1), (46, 1), (47, 1)]) Tryz.underlying57 (fun w => by kernel_rfl) (fun w => by kernel_rfl) ?_ w
 show Instr.fill _ zRdy [(0, _), (6, _), (2, _)] = _
 rw [fill_cons (off := 0) (n := 1) rfl rfl (by rw [zRdy_size]; omega), fill_cons (off := 47) (n := 1) rfl rfl (by rw [wr_size, zRdy_size]; omega), fill_cons (off := 41) (n := 1) rfl rfl (by rw [wr_size, wr_size, zRdy_size]; omega)]
 refine congrArg some ?_
 show ((zRdy.setIfInBounds 0 (.slice (some ⟨a6, 0, none⟩) 1 1)).setIfInBounds 47 (u64v p)).setIfInBounds 41 (.slice (some ⟨a9, 0, none⟩) 1 1) = _
 have h1 : zRdy.setIfInBounds 0 (.slice (some ⟨a6, 0, none⟩) 1 1) = rdr { rd0 with b := ⟨some ⟨a6, 0, none⟩, [b], 1⟩ } := set_b (x := rd0) (n := 1) (c := 1) [b] rfl
 rw [h1]
 have h2 : (rdr { rd0 with b := ⟨some ⟨a6, 0, none⟩, [b], 1⟩ }).setIfInBounds 47 (u64v p) = rdr { rd0 with b := ⟨some ⟨a6, 0, none⟩, [b], 1⟩, prio := p } := mx_setpost 8 _
 rw [h2]
 exact set_ro (x := { rd0 with b := ⟨some ⟨a6, 0, none⟩, [b], 1⟩, prio := p }) (n := 1) (c := 1) [r] rfl
set_option maxRecDepth 20000 in
set_option maxHeartbeats 1600000 in
theorem ready_c (p : UInt64) (b : UInt8) (w : World) : Calls Tryz.prog 12 #[u64v p, u8v b] w fun e w' => ∃ x : RdR, e = .returned (.agg (rdr x)) ∧ x.con = rdy p b ∧ RdOk w' x ∧ RdSm x.con ∧ Mod (fun _ => False) w w' := by
 have hb6 := bsByte b
 have hb8 : ∀ w, (Instr.build 91 #[(2, .bool true)]).run Tryz.prog w = .ok (.agg (rcr rolW)) w := fun w => by kernel_rfl
 have hb9 := bsRole rolW
 have hb10 := fun a6 a9 => bldRdy p a6 a9 b rolW
 go_enter Tryz.func12, Tryz.ntmps12
 go_upto_region 0 with fail
 refine wp_pass0 (C := fun _ _ _ => False) (κ := fun i => [3].getD i 0) [0] (by kernel_rfl) (by kernel_rfl) (fun _ _ d _ _ h => by cases d <;> first | exact h | exact absurd h (hP _ _ _)) ?_
 (refine TD.allocB (by simp only [zK]; rfl) rfl (by rfl) rfl rfl alRdy (fun p4 hp4 => ?n1); try simp only [Act.put, zL])
 refine TD.nil (fun w1 hr => ?_)
 have kp4 := hr.box p4 _ (by first | exact Bx.set_same _ _ _ | (simp only [Bx.set_same]; rfl)); dsimp only [Value.cells] at kp4; obtain ⟨gp4, kp4⟩ := kp4
 have m1 := hr.mod
 clear hr
 go_upto_region 1 with fail
 have Lkp4 := lt_size kp4
 refine wp_pass0 (C := fun _ _ _ => False) (κ := fun i => [0, 3, 0, 0, 3, 0, 5].getD i 0) [0, 1, 2, 3, 4, 5, 6] (by kernel_rfl) (by kernel_rfl) (fun _ _ d _ _ h => by cases d <;> first | exact h | exact absurd h (hP _ _ _)) ?_
 (refine TD.val0 (v := ?v2) (by simp only [zK]; rfl) rfl (by rfl) (fun w1 => ?y2) ?n2; (case y2 => go_simp; try with_reducible rfl); try simp only [Act.put, zL])
 (refine TD.bslice (by simp only [zK]; rfl) rfl (by rfl) rfl rfl ?hx3 hb6 (fun p6 hp6 => ?n3); (case hx3 => (simp only [List.map_toArray, List.map_cons, List.map_nil, Act.eval, zM]; (try rfl))); try simp only [Act.put, zL])
 (refine TD.val0 (v := ?v4) (by simp only [zK]; rfl) rfl (by rfl) (fun w1 => ?y4) ?n4; (case y4 => go_simp; try with_reducible rfl); try simp only [Act.put, zL])
 (refine TD.build (v := ?v5) (ps := ?p5) (by simp only [zK]; rfl) rfl (by rfl) rfl ?hx5 (fun w1 => ?y5) ?n5; (case hx5 => (simp only [List.map_toArray, List.map_cons, List.map_nil, Act.eval, zM]; (try rfl))); (case y5 => (rw [hb8]; (try with_reducible rfl))); try simp only [Act.put, zL])
 (refine TD.bslice (by simp only [zK]; rfl) rfl (by rfl) rfl rfl ?hx6 hb9 (fun p9 hp9 => ?n6); (case hx6 => (simp only [List.map_toArray, List.map_cons, List.map_nil, Act.eval, zM]; (try rfl))); try simp only [Act.put, zL])
 obtain ⟨ne_p9_p6, hp9⟩ := Bx.set_none hp9
 (refine TD.build (v := ?v7) (ps := ?p7) (by simp only [zK]; rfl) rfl (by rfl) rfl ?hx7 (fun w1 => ?y7) ?n7; (case hx7 => (simp only [List.map_toArray, List.map_cons, List.map_nil, Act.eval, zM]; (try rfl))); (case y7 => (rw [hb10]; (try with_reducible rfl))); try simp only [Act.put, zL])
 refine TD.eff (by simp only [zK]; rfl) rfl (fun w2 hr => ?_)
 have kp4 := hr.mod.at kp4 (fun h => h)
 have kp6 := hr.box p6 _ (by first | exact Bx.set_same _ _ _ | (simp only [Bx.set_ne _ (Ne.symm ne_p9_p6), Bx.set_ne _ ne_p9_p6, Bx.set_same]; rfl)); dsimp only [Value.cells] at kp6; obtain ⟨gp6, kp6⟩ := kp6
 have kp9 := hr.box p9 _ (by first | exact Bx.set_same _ _ _ | (simp only [Bx.set_ne _ (Ne.symm ne_p9_p6), Bx.set_ne _ ne_p9_p6, Bx.set_same]; rfl)); dsimp only [Value.cells] at kp9; obtain ⟨gp9, kp9⟩ := kp9
 have m2 := m1.then0 hr.mod
 have hne6 : p6 ≠ p4 := by have := lt_size kp4; have := gp6; have := Lkp4; omega
 have hne9 : p9 ≠ p4 := by have := gp9; have := Lkp4; omega
 clear hr hb6 hb8 hb9 hb10
 (refine eff_store (X := ?X9) (Y := ?Y9) (w' := ?w9) (by simp only [zK]; rfl) (by rfl) rfl ?hx9 ?hz9 ?y9 ?n9; (case hx9 => simp only [Act.eval, zM]; try rfl); (case hz9 => simp only [Act.eval, zM]; try rfl); (case y9 => go_simp; try with_reducible rfl))
 (first | refine TE.nil_set kp4 (fun wn kp4 mS => ?_) | refine TE.nil_setCell kp4 (fun wn kp4 mS => ?_))
 (try simp only [Array.setIfInBounds, zL] at kp4)
 have m3 := m2.thenB mS (.inl gp4)
 have kp6 := mS.at kp6 hne6
 have kp9 := mS.at kp9 hne9
 clear mS
 go_wp2_with fail
 refine bodyPost_ret (results_cell1 (v := .agg (rdr { rd0 with b := ⟨some ⟨p6, 0, none⟩, [b], 1⟩, prio := p, ro := ⟨some ⟨p9, 0, none⟩, [rolW], 1⟩ })) rfl rfl (by rw [ldRdy]; simp [kp4, rdr_all, rdr_size])) rfl ⟨_, rfl, rfl, ?_, ?_, m3⟩
 ·exact { rd0_ok _ with b := SlAt.one kp6 b rfl rfl, ro := SlAt.one kp9 rolW rfl (rc_size _ _ _) }
 ·exact { rd0_sm with b := (by show [b].length ≤ 1000000; simp), ro := (by show [rolW].length ≤ 1000000; simp) }
set_option maxRecDepth 20000 in
set_option maxHeartbeats 3200000 in
theorem numbA_c {a1 a2 : Option Addr} {c1 c2 : Nat} {l m : List UInt64} {w : World} (hv : SlAt nc 1 w a1 l) (hu : SlAt nc 1 w a2 m) (hl : l.length ≤ 900000) (hm : m.length ≤ 900000) : Calls Tryz.prog 13 #[.slice a1 l.length c1, .slice a2 m.length c2] w fun e w' => e = .returned (.bool (decide (l = m))) ∧ Mod (fun _ => False) w w' := by
 have HV := Lib.hid (And.intro hv hu)
 clear hv hu
 go_enter Tryz.func13, Tryz.ntmps13
 go_wp2_with fail
 go_loopw [5] (fun s5 ws => ∃ i : Nat, i ≤ l.length ∧ i ≤ m.length ∧ s5 = .int .i64 (i : Int) ∧ Hid (l.take i = m.take i) ∧ Mod (fun _ => False) w ws) (fun s5 _ => l.length - (intOf s5).toNat)
 case atStart => exact ⟨0, by omega, by omega, rfl, Lib.hid (by simp), Mod.refl _ _⟩
 case round =>
  obtain ⟨i, hi1, hi2, rfl, HT, hmw⟩ := hrel
  by_cases hlt : i < l.length
  ·by_cases hlt2 : i < m.length
   ·obtain ⟨x, hx⟩ : ∃ x, l[i]? = some x := ⟨_, List.getElem?_eq_getElem hlt⟩
    obtain ⟨y, hy⟩ : ∃ y, m[i]? = some y := ⟨_, List.getElem?_eq_getElem hlt2⟩
    obtain ⟨g1, o1, C1, U1, fr1, rfl, k1, he1, _⟩ := (HV.out.1.mod0 hmw).block hx
    obtain ⟨g2, o2, C2, U2, fr2, rfl, k2, he2, _⟩ := (HV.out.2.mod0 hmw).block hy
    have q1 : C1[o1 + i]? = some (u64v x) := by have h0 := cellC he1 (j := 0) (v := u64v x) rfl; simpa using h0
    have q2 : C2[o2 + i]? = some (u64v y) := by have h0 := cellC he2 (j := 0) (v := u64v y) rfl; simpa using h0
    clear he1 he2
    have HX := Lib.hid (And.intro hx hy)
    clear hx hy
    by_cases hxy : x = y
    ·subst hxy
     go_upto_region 4 with fail
     have Lk1 := lt_size k1
     have Lk2 := lt_size k2
     refine wp_pass (C := fun _ _ _ => False) (κ := fun i => [0, 0, 0, 1, 0, 0, 0, 1, 0].getD i 0) [0, 1, 2, 3, 4, 5, 6, 7, 8] (by kernel_rfl) (by kernel_rfl) (fun _ _ d _ _ h => by cases d <;> first | exact h | exact absurd h (hP _ _ _)) ?_
     (refine TD.val0 (v := ?v10) (by simp only [zK]; rfl) rfl (by rfl) (fun w1 => ?y10) ?n10; (case y10 => go_simp; try with_reducible rfl); try simp only [Act.put, zL])
     (refine TD.val0 (v := ?v11) (by simp only [zK]; rfl) rfl (by rfl) (fun w1 => ?y11) ?n11; (case y11 => go_simp; try with_reducible rfl); try simp only [Act.put, zL])
     (refine TD.val0 (v := ?v12) (by simp only [zK]; rfl) rfl (by rfl) (fun w1 => ?y12) ?n12; (case y12 => go_simp; try with_reducible rfl); try simp only [Act.put, zL])
     (refine TD.load (v := ?v13) (p := ?p13) (Mod.refl _ _) (by simp only [zK]; rfl) rfl (by rfl) rfl ?hx13 (fun wq hSq => ?y13) ?n13; (case hx13 => simp only [Act.eval, zM]; try rfl); (case y13 => (have k1q := hSq.at k1 (fun h => h); have k2q := hSq.at k2 (fun h => h); go_simp; (try with_reducible rfl))); try simp only [Act.put, zL])
     (refine TD.val0 (v := ?v14) (by simp only [zK]; rfl) rfl (by rfl) (fun w1 => ?y14) ?n14; (case y14 => go_simp; try with_reducible rfl); try simp only [Act.put, zL])
     (refine TD.val0 (v := ?v15) (by simp only [zK]; rfl) rfl (by rfl) (fun w1 => ?y15) ?n15; (case y15 => go_simp; try with_reducible rfl); try simp only [Act.put, zL])
     (refine TD.val0 (v := ?v16) (by simp only [zK]; rfl) rfl (by rfl) (fun w1 => ?y16) ?n16; (case y16 => go_simp; try with_reducible rfl); try simp only [Act.put, zL])
     (refine TD.load (v := ?v17) (p := ?p17) (Mod.refl _ _) (by simp only [zK]; rfl) rfl (by rfl) rfl ?hx17 (fun wq hSq => ?y17) ?n17; (case hx17 => simp only [Act.eval, zM]; try rfl); (case y17 => (have k1q := hSq.at k1 (fun h => h); have k2q := hSq.at k2 (fun h => h); go_simp; (try with_reducible rfl))); try simp only [Act.put, zL])
     (refine TD.val0 (v := ?v18) (by simp only [zK]; rfl) rfl (by rfl) (fun w1 => ?y18) ?n18; (case y18 => go_simp; try with_reducible rfl); try simp only [Act.put, zL])
     refine TD.nil (fun w2 hr => ?_)
     have k1 := hr.mod.at k1 (fun h => h)
     have k2 := hr.mod.at k2 (fun h => h)
     have mm := hmw.then0 hr.mod
     clear hr
     go_wp2_with fail
     go_roundw
     case rel => exact ⟨i + 1, by omega, by omega, by go_num, Lib.hid (by
      rw [List.take_add_one, List.take_add_one, HT.out, HX.out.1, HX.out.2]), mm⟩
     case measure => simp [intOf]; omega
    ·have hde : ((x.toNat : Int) != (y.toNat : Int)) = true := by
      rw [bne_iff_ne]
      exact fun e => hxy (UInt64.toNat_inj.1 (by exact_mod_cast e))
     have HXY := Lib.hid hxy
     clear hxy
     go_upto_region 4 with fail
     have Lk1 := lt_size k1
     have Lk2 := lt_size k2
     refine wp_pass (C := fun _ _ _ => False) (κ := fun i => [0, 0, 0, 1, 0, 0, 0, 1, 0].getD i 0) [0, 1, 2, 3, 4, 5, 6, 7, 8] (by kernel_rfl) (by kernel_rfl) (fun _ _ d _ _ h => by cases d <;> first | exact h | exact absurd h (hP _ _ _)) ?_
     (refine TD.val0 (v := ?v19) (by simp only [zK]; rfl) rfl (by rfl) (fun w1 => ?y19) ?n19; (case y19 => go_simp; try with_reducible rfl); try simp only [Act.put, zL])
     (refine TD.val0 (v := ?v20) (by simp only [zK]; rfl) rfl (by rfl) (fun w1 => ?y20) ?n20; (case y20 => go_simp; try with_reducible rfl); try simp only [Act.put, zL])
     (refine TD.val0 (v := ?v21) (by simp only [zK]; rfl) rfl (by rfl) (fun w1 => ?y21) ?n21; (case y21 => go_simp; try with_reducible rfl); try simp only [Act.put, zL])
     (refine TD.load (v := ?v22) (p := ?p22) (Mod.refl _ _) (by simp only [zK]; rfl) rfl (by rfl) rfl ?hx22 (fun wq hSq => ?y22) ?n22; (case hx22 => simp only [Act.eval, zM]; try rfl); (case y22 => (have k1q := hSq.at k1 (fun h => h); have k2q := hSq.at k2 (fun h => h); go_simp; (try with_reducible rfl))); try simp only [Act.put, zL])
     (refine TD.val0 (v := ?v23) (by simp only [zK]; rfl) rfl (by rfl) (fun w1 => ?y23) ?n23; (case y23 => go_simp; try with_reducible rfl); try simp only [Act.put, zL])
     (refine TD.val0 (v := ?v24) (by simp only [zK]; rfl) rfl (by rfl) (fun w1 => ?y24) ?n24; (case y24 => go_simp; try with_reducible rfl); try simp only [Act.put, zL])
     (refine TD.val0 (v := ?v25) (by simp only [zK]; rfl) rfl (by rfl) (fun w1 => ?y25) ?n25; (case y25 => go_simp; try with_reducible rfl); try simp only [Act.put, zL])
     (refine TD.load (v := ?v26) (p := ?p26) (Mod.refl _ _) (by simp only [zK]; rfl) rfl (by rfl) rfl ?hx26 (fun wq hSq => ?y26) ?n26; (case hx26 => simp only [Act.eval, zM]; try rfl); (case y26 => (have k1q := hSq.at k1 (fun h => h); have k2q := hSq.at k2 (fun h => h); go_simp; (try with_reducible rfl))); try simp only [Act.put, zL])
     (refine TD.val0 (v := ?v27) (by simp only [zK]; rfl) rfl (by rfl) (fun w1 => ?y27) ?n27; (case y27 => go_simp; try with_reducible rfl); try simp only [Act.put, zL])
     refine TD.nil (fun w2 hr => ?_)
     have k1 := hr.mod.at k1 (fun h => h)
     have k2 := hr.mod.at k2 (fun h => h)
     have mm := hmw.then0 hr.mod
     clear hr
     go_wp2_with fail
     go_ret
     refine ⟨?_, mm⟩
     rw [decide_eq_false (fun e => by
      subst e
      have := HX.out.1.symm.trans HX.out.2
      exact HXY.out (by injection this))]
     rfl
   ·have hne : ((l.length : Int) == (m.length : Int)) = false := by rw [beq_eq_false_iff_ne]; omega
    go_wp2_with fail
    go_ret
    refine ⟨?_, hmw⟩
    rw [decide_eq_false (fun e => by rw [e] at hlt; omega)]
    rfl
  ·have hie : i = l.length := by omega
   by_cases hle : l.length = m.length
   ·have hll : l = m := by
     have := HT.out
     rw [List.take_of_length_le (by omega), List.take_of_length_le (by omega)] at this
     exact this
    have HLL := Lib.hid hll
    clear hll
    have hne : ((l.length : Int) == (m.length : Int)) = true := by rw [beq_iff_eq]; omega
    clear hle
    go_wp2_with fail
    go_ret
    exact ⟨by rw [decide_eq_true HLL.out]; rfl, hmw⟩
   ·have hne : ((l.length : Int) == (m.length : Int)) = false := by rw [beq_eq_false_iff_ne]; omega
    go_wp2_with fail
    go_ret
    refine ⟨?_, hmw⟩
    rw [decide_eq_false (fun e => hle (by rw [e]))]
    rfl
end Go.Proofs.YtdeghpmlhcaedaaGreatDoor
namespace Go.Proofs.YtdeghpmlhcaedaaGreatDoor
open Go.RowKit
open Go.ChangeMaps (setBlock)
attribute [local go_sem] cell_blk frozen_blk one_int one_bool one_ptr one_slice one_map Value.cells
structure LS (w0 : World) (b : Nat) (S : List (Option It)) (T : Nat → Prop) (w : World) : Prop where
 bo : BO b S T w
 up : ∀ i, T i → w0.heap.size ≤ i
 m : Mod (fun _ => False) w0 w
 tab : TabW w
section
variable {w0 w w' : World} {b : Nat} {S S' : List (Option It)} {T : Nat → Prop}
theorem LS.mod0 (H : LS w0 b S T w) (hm : Mod (fun _ => False) w w') : LS w0 b S T w' := ⟨H.bo.mod0 hm, H.up, H.m.then0 hm, H.tab.mod0 hm⟩
theorem LS.bh (H : LS w0 b S T w) : BH w T b S w := H.bo.bh
theorem LS.from1 (H : LS w0 b S T w) {T' : Nat → Prop} (h : BO b S' T' w' ∧ Mod T w w' ∧ ∀ i, T' i → T i ∨ w.heap.size ≤ i) : LS w0 b S' T' w' := by
 obtain ⟨h1, h2, h3⟩ := h
 refine ⟨h1, fun i hi => ?_, H.m.then h2 (fun i hi e => ?_), H.tab.mod h2 H.bo.2.1⟩
 ·rcases h3 i hi with h | h
  ·exact H.up i h
  ·exact Nat.le_trans H.m.size h
 ·have := H.up i e; omega
theorem LS.then (H : LS w0 b S T w) (H' : BH w T b S' w') : ∃ T', LS w0 b S' T' w' ∧ Mod T w w' ∧ ∀ i, T' i → T i ∨ w.heap.size ≤ i := by
 obtain ⟨T', h⟩ := H.bo.then H'
 exact ⟨T', H.from1 h, h.2⟩
theorem LS.start (H : BH w (fun _ => False) b S w') (ht : TabW w) : ∃ T, LS w b S T w' := by
 have ht2 := ht
 obtain ⟨C, U, fr, h0, _⟩ := ht2
 have hlt := lt_size h0
 obtain ⟨T, h⟩ := H.o
 have h2 := h.bo ⟨by omega, fun h => h⟩
 exact ⟨T, h2.1, fun i hi => (h2.2.2 i hi).resolve_left (fun h => h), h2.2.1, TabW.mod0 ht h2.2.1⟩
end
def Im (n p : UInt64) (b : UInt8) (pl : Nat) : It := ⟨n, rdy p b, pl, false⟩
def S1 : List (Option It) := [some (Im 1 5 1 0), none]
def S2 : List (Option It) := [some (Im 1 5 1 0), some (Im 2 9 2 0)]
def S3 : List (Option It) := [some (Im 4 7 4 0), some (Im 2 9 2 0)]
def S4 : List (Option It) := [some (Im 4 7 4 0), some (Im 2 9 2 1)]
def S5 : List (Option It) := [some (Im 5 8 5 0), some (Im 2 9 2 1)]
def S6 : List (Option It) := [some (Im 5 8 5 1), some (Im 2 9 2 1)]
def S7 : List (Option It) := [some (Im 5 8 5 0), some (Im 2 9 2 1)]
def S8 : List (Option It) := [some (Im 5 8 5 0), some (Im 2 9 2 2)]
def n1 : Nd := ⟨⟨5, 1⟩, idn 0⟩
def n2 : Nd := ⟨⟨9, 2⟩, idn 1⟩
def n4 : Nd := ⟨⟨7, 4⟩, idn 0⟩
def n5 : Nd := ⟨⟨8, 5⟩, idn 0⟩
theorem q2 : [n2, n1].Perm (wtg 0 S2) := List.Perm.swap n1 n2 []
theorem q3 : [n2, n4].Perm (wtg 0 S3) := List.Perm.swap n4 n2 []
theorem q4 : [n4].Perm (wtg 0 S4) := List.Perm.refl [n4]
theorem q5 : [n5].Perm (wtg 0 S5) := List.Perm.refl [n5]
theorem q8 : [n5].Perm (wtg 0 S8) := List.Perm.refl [n5]
theorem r2 : Srt [n2, n1] := by unfold Srt; decide
theorem r3 : Srt [n2, n4] := by unfold Srt; decide
theorem r4 : Srt [n4] := by unfold Srt; decide
theorem r5 : Srt [n5] := by unfold Srt; decide
theorem f0 : FreeS (List.replicate 2 (none : Option It)) 0 := ⟨rfl, fun i hi => by omega⟩
theorem f1 : FreeS S1 1 := ⟨rfl, fun i hi => by
                        obtain rfl : i = 0 := by omega
                        exact ⟨_, rfl⟩⟩
theorem bsIntL (k : Nat) (x : Int64) (h : x.toInt = (k : Int)) (w : World) : (Instr.buildSlice 79 1 #[(0, .int .i64 (k : Int))]).run Tryz.prog w = .ok (.slice (some ⟨w.heap.size, 0, none⟩) 1 1) (w.alloc (.cells (ic x) 3)) := by
 rw [← h]
 exact bsInt x w
set_option maxRecDepth 20000 in
set_option maxHeartbeats 12800000 in
theorem lives_c (w : World) (ht : TabW w) : Calls Tryz.prog 6 #[] w fun e w' => e = .returned (.bool true) ∧ Mod (fun _ => False) w w' := by
 have HT := Lib.hid ht
 clear ht
 go_enter Tryz.func6, Tryz.ntmps6
 go_wp2_with fail
 go_at_call 4
 refine (bnewY_c w (n := 2) (by omega) (by omega)).mono ?_
 rintro e w1 ⟨b, rfl, H1⟩
 obtain ⟨T1, L1⟩ := LS.start H1 HT.out
 have HL1 := Lib.hid L1
 clear H1 L1
 go_wp2_with fail
 go_at_call 12
 refine (ready_c 5 1 w1).mono ?_
 rintro e w2 ⟨x, rfl, hxc, hok, hsm, hm⟩
 have HX := Lib.hid (And.intro hxc (And.intro hok hsm))
 have HM := Lib.hid (HL1.out.mod0 hm)
 have HM15 := Lib.hid hm
 clear hxc hok hsm hm
 go_wp2_with fail
 go_at_call 11
 refine (addR_c HM.out.bh HM.out.bo.h0 HM.out.tab f0 HX.out.2.1 HX.out.2.2 1).mono ?_
 rintro e w3 ⟨rfl, H3⟩
 rw [HX.out.1] at H3
 obtain ⟨T3, L3, _⟩ := HM.out.then (S' := S1) H3
 have HL3 := Lib.hid L3
 clear H3 L3 HX HM
 go_wp2_with fail
 go_at_call 12
 refine (ready_c 9 2 w3).mono ?_
 rintro e w4 ⟨x, rfl, hxc, hok, hsm, hm⟩
 have HX := Lib.hid (And.intro hxc (And.intro hok hsm))
 have HM := Lib.hid (HL3.out.mod0 hm)
 have HM15 := Lib.hid hm
 clear hxc hok hsm hm
 go_wp2_with fail
 go_at_call 11
 refine (addR_c HM.out.bh HM.out.bo.h0 HM.out.tab f1 HX.out.2.1 HX.out.2.2 2).mono ?_
 rintro e w5 ⟨rfl, H5⟩
 rw [HX.out.1] at H5
 obtain ⟨T5, L5, _⟩ := HM.out.then (S' := S2) H5
 have HL5 := Lib.hid L5
 clear H5 L5 HX HM
 go_wp2_with fail
 go_at_call 12
 refine (ready_c 5 3 w5).mono ?_
 rintro e w6 ⟨x, rfl, hxc, hok, hsm, hm⟩
 have HX := Lib.hid (And.intro hxc (And.intro hok hsm))
 have HM := Lib.hid (HL5.out.mod0 hm)
 have HM15 := Lib.hid hm
 clear hxc hok hsm hm
 go_wp2_with fail
 go_at_call 11
 refine (addL_c HM.out.bh rfl q2 r2 (i := 0) (x' := Im 1 5 1 0) rfl rfl HX.out.2.1 HX.out.2.2 3 ?hA).mono ?_
 case hA =>
  have : x.prio = 5 := by have := congrArg RdC.prio HX.out.1; exact this
  rw [this]
  decide
 rintro e w7 ⟨rfl, m7⟩
 have HL7 := Lib.hid (HM.out.mod0 m7)
 clear m7 HX HM
 go_wp2_with fail
 go_at_call 12
 refine (ready_c 7 4 w7).mono ?_
 rintro e w8 ⟨x, rfl, hxc, hok, hsm, hm⟩
 have HX := Lib.hid (And.intro hxc (And.intro hok hsm))
 have HM := Lib.hid (HL7.out.mod0 hm)
 have HM15 := Lib.hid hm
 clear hxc hok hsm hm
 go_wp2_with fail
 go_at_call 11
 refine (addO_c HM.out.bh HM.out.bo.h0 HM.out.tab rfl q2 r2 (i := 0) (x' := Im 1 5 1 0) rfl rfl rfl HX.out.2.1 HX.out.2.2 4 ?hA).mono ?_
 case hA =>
  have : x.prio = 7 := by have := congrArg RdC.prio HX.out.1; exact this
  rw [this]
  decide
 rintro e w9 ⟨v, rfl, hv, T', H9, hvT⟩
 rw [HX.out.1] at H9
 have HL9 : Hid (LS w b S3 T' w9) := Lib.hid (HM.out.from1 (H9.bo HM.out.bo.h0))
 obtain ⟨a, rfl, hva, _⟩ := hv.at
 have HV := Lib.hid hva
 have hb1 : ∀ w, (Instr.buildSlice 70 1 #[(0, .int .u64 1)]).run Tryz.prog w = .ok (.slice (some ⟨w.heap.size, 0, none⟩) 1 1) (w.alloc (.cells (nc 1) 32)) := bsU64 1
 clear H9 hvT hv hva HX HM
 go_upto_region 6 with fail
 refine wp_gpass0 (T0 := fun _ => False) (K := fun _ _ => True) (κ := fun i => [0, 0, 0, 0, 0, 0, 0, 0, 0, 0, 0, 0, 0, 0, 0, 0, 0, 0, 0, 0, 0, 0, 0, 0, 0, 0, 0, 0, 0, 0, 0, 0, 3, 6, 0, 0].getD i 0) (υ := fun i => [[], [], [], [], [], [], [], [], [], [], [], [], [], [], [], [], [], [], [], [], [], [], [], [], [], [], [], [], [], [], [], [], [], [83], [], []].getD i []) [0, 1, 2, 3, 4, 5, 6, 7, 8, 9, 10, 11, 12, 13, 14, 15, 16, 17, 18, 19, 20, 21, 22, 23, 24, 25, 26, 27, 28, 29, 30, 31, 32, 33, 34, 35] (by kernel_rfl) (by kernel_rfl) (Good.true).cl (trivial) (fun _ h => h.elim) ?_
 have gK := Good.true
 (refine TG.v0 (v := ?v1) (by simp only [zK]; rfl) rfl (by rfl) (fun w1 => ?y1) ?n1; (case y1 => go_simp; try with_reducible rfl); try simp only [Act.put, zL])
 (refine TG.v0 (v := ?v2) (by simp only [zK]; rfl) rfl (by rfl) (fun w1 => ?y2) ?n2; (case y2 => go_simp; try with_reducible rfl); try simp only [Act.put, zL])
 (refine TG.v0 (v := ?v3) (by simp only [zK]; rfl) rfl (by rfl) (fun w1 => ?y3) ?n3; (case y3 => go_simp; try with_reducible rfl); try simp only [Act.put, zL])
 (refine TG.v0 (v := ?v4) (by simp only [zK]; rfl) rfl (by rfl) (fun w1 => ?y4) ?n4; (case y4 => go_simp; try with_reducible rfl); try simp only [Act.put, zL])
 (refine TG.v0 (v := ?v5) (by simp only [zK]; rfl) rfl (by rfl) (fun w1 => ?y5) ?n5; (case y5 => go_simp; try with_reducible rfl); try simp only [Act.put, zL])
 (refine TG.v0 (v := ?v6) (by simp only [zK]; rfl) rfl (by rfl) (fun w1 => ?y6) ?n6; (case y6 => go_simp; try with_reducible rfl); try simp only [Act.put, zL])
 (refine TG.v0 (v := ?v7) (by simp only [zK]; rfl) rfl (by rfl) (fun w1 => ?y7) ?n7; (case y7 => go_simp; try with_reducible rfl); try simp only [Act.put, zL])
 (refine TG.v0 (v := ?v8) (by simp only [zK]; rfl) rfl (by rfl) (fun w1 => ?y8) ?n8; (case y8 => go_simp; try with_reducible rfl); try simp only [Act.put, zL])
 (refine TG.v0 (v := ?v9) (by simp only [zK]; rfl) rfl (by rfl) (fun w1 => ?y9) ?n9; (case y9 => go_simp; try with_reducible rfl); try simp only [Act.put, zL])
 (refine TG.v0 (v := ?v10) (by simp only [zK]; rfl) rfl (by rfl) (fun w1 => ?y10) ?n10; (case y10 => go_simp; try with_reducible rfl); try simp only [Act.put, zL])
 (refine TG.v0 (v := ?v11) (by simp only [zK]; rfl) rfl (by rfl) (fun w1 => ?y11) ?n11; (case y11 => go_simp; try with_reducible rfl); try simp only [Act.put, zL])
 (refine TG.v0 (v := ?v12) (by simp only [zK]; rfl) rfl (by rfl) (fun w1 => ?y12) ?n12; (case y12 => go_simp; try with_reducible rfl); try simp only [Act.put, zL])
 (refine TG.v0 (v := ?v13) (by simp only [zK]; rfl) rfl (by rfl) (fun w1 => ?y13) ?n13; (case y13 => go_simp; try with_reducible rfl); try simp only [Act.put, zL])
 (refine TG.v0 (v := ?v14) (by simp only [zK]; rfl) rfl (by rfl) (fun w1 => ?y14) ?n14; (case y14 => go_simp; try with_reducible rfl); try simp only [Act.put, zL])
 (refine TG.v0 (v := ?v15) (by simp only [zK]; rfl) rfl (by rfl) (fun w1 => ?y15) ?n15; (case y15 => go_simp; try with_reducible rfl); try simp only [Act.put, zL])
 (refine TG.v0 (v := ?v16) (by simp only [zK]; rfl) rfl (by rfl) (fun w1 => ?y16) ?n16; (case y16 => go_simp; try with_reducible rfl); try simp only [Act.put, zL])
 (refine TG.v0 (v := ?v17) (by simp only [zK]; rfl) rfl (by rfl) (fun w1 => ?y17) ?n17; (case y17 => go_simp; try with_reducible rfl); try simp only [Act.put, zL])
 (refine TG.v0 (v := ?v18) (by simp only [zK]; rfl) rfl (by rfl) (fun w1 => ?y18) ?n18; (case y18 => go_simp; try with_reducible rfl); try simp only [Act.put, zL])
 (refine TG.v0 (v := ?v19) (by simp only [zK]; rfl) rfl (by rfl) (fun w1 => ?y19) ?n19; (case y19 => go_simp; try with_reducible rfl); try simp only [Act.put, zL])
 (refine TG.v0 (v := ?v20) (by simp only [zK]; rfl) rfl (by rfl) (fun w1 => ?y20) ?n20; (case y20 => go_simp; try with_reducible rfl); try simp only [Act.put, zL])
 (refine TG.v0 (v := ?v21) (by simp only [zK]; rfl) rfl (by rfl) (fun w1 => ?y21) ?n21; (case y21 => go_simp; try with_reducible rfl); try simp only [Act.put, zL])
 (refine TG.v0 (v := ?v22) (by simp only [zK]; rfl) rfl (by rfl) (fun w1 => ?y22) ?n22; (case y22 => go_simp; try with_reducible rfl); try simp only [Act.put, zL])
 (refine TG.v0 (v := ?v23) (by simp only [zK]; rfl) rfl (by rfl) (fun w1 => ?y23) ?n23; (case y23 => go_simp; try with_reducible rfl); try simp only [Act.put, zL])
 (refine TG.v0 (v := ?v24) (by simp only [zK]; rfl) rfl (by rfl) (fun w1 => ?y24) ?n24; (case y24 => go_simp; try with_reducible rfl); try simp only [Act.put, zL])
 (refine TG.v0 (v := ?v25) (by simp only [zK]; rfl) rfl (by rfl) (fun w1 => ?y25) ?n25; (case y25 => go_simp; try with_reducible rfl); try simp only [Act.put, zL])
 (refine TG.v0 (v := ?v26) (by simp only [zK]; rfl) rfl (by rfl) (fun w1 => ?y26) ?n26; (case y26 => go_simp; try with_reducible rfl); try simp only [Act.put, zL])
 (refine TG.v0 (v := ?v27) (by simp only [zK]; rfl) rfl (by rfl) (fun w1 => ?y27) ?n27; (case y27 => go_simp; try with_reducible rfl); try simp only [Act.put, zL])
 (refine TG.v0 (v := ?v28) (by simp only [zK]; rfl) rfl (by rfl) (fun w1 => ?y28) ?n28; (case y28 => go_simp; try with_reducible rfl); try simp only [Act.put, zL])
 (refine TG.v0 (v := ?v29) (by simp only [zK]; rfl) rfl (by rfl) (fun w1 => ?y29) ?n29; (case y29 => go_simp; try with_reducible rfl); try simp only [Act.put, zL])
 (refine TG.v0 (v := ?v30) (by simp only [zK]; rfl) rfl (by rfl) (fun w1 => ?y30) ?n30; (case y30 => go_simp; try with_reducible rfl); try simp only [Act.put, zL])
 (refine TG.v0 (v := ?v31) (by simp only [zK]; rfl) rfl (by rfl) (fun w1 => ?y31) ?n31; (case y31 => go_simp; try with_reducible rfl); try simp only [Act.put, zL])
 (refine TG.v0 (v := ?v32) (by simp only [zK]; rfl) rfl (by rfl) (fun w1 => ?y32) ?n32; (case y32 => go_simp; try with_reducible rfl); try simp only [Act.put, zL])
 (refine TG.bslice (by simp only [zK]; rfl) rfl (by rfl) rfl rfl ?hx33 hb1 (fun p83 hp83 _ => ?n33); (case hx33 => (simp only [List.map_toArray, List.map_cons, List.map_nil, Act.eval, zM]; (try rfl))); try simp only [Act.put, zL])
 (refine TG.callN (f := ?f34) (args := ?r34) (fun v => v = .bool true) gK (by simp only [zK]; rfl) rfl (by rfl) (fun w1 => ?y34) (fun T wq kq ltq hSq ub => ?hsp34) ?n34; (case y34 => (go_simp; (first | with_reducible rfl | (constructor <;> with_reducible rfl)))); (case hsp34 => (have kp83 := ub.box (p := p83) (by first | exact Bx.set_same _ _ _ | (simp only [Bx.set_same]; rfl)) (by first | decide | exact List.mem_singleton.2 rfl | simp); dsimp only [Value.cells] at kp83; have nUp83 := (ub p83 _ (by first | exact Bx.set_same _ _ _ | (simp only [Bx.set_same]; rfl)) (by first | decide | exact List.mem_singleton.2 rfl | simp)).1; exact (numbA_c (l := [1]) (m := [1]) (HV.out.mod0 hSq) (SlAt.one kp83 1 rfl rfl) (by decide) (by decide)).mono (fun e w' h => ⟨_, h.1, rfl, h.2⟩))); rintro v34 hC; subst hC; try simp only [Act.put, zL])
 (refine TG.v0 (v := ?v35) (by simp only [zK]; rfl) rfl (by rfl) (fun w1 => ?y35) ?n35; (case y35 => go_simp; try with_reducible rfl); try simp only [Act.put, zL])
 (refine TG.v0 (v := ?v36) (by simp only [zK]; rfl) rfl (by rfl) (fun w1 => ?y36) ?n36; (case y36 => go_simp; try with_reducible rfl); try simp only [Act.put, zL])
 refine TG.nil (fun w10 ⟨TR, hr⟩ => ?_)
 have kp83 := hr.box p83 _ (by first | exact Bx.set_same _ _ _ | (simp only [Bx.set_same]; rfl)); dsimp only [Value.cells] at kp83; obtain ⟨gp83, nTp83, kp83⟩ := kp83
 clear gK
 have HL10 := Lib.hid (HL9.out.mod0 hr.mod)
 clear hr hb1 kp83
 go_wp2_with fail
 go_at_call 14
 refine (bpopY_c HL10.out.bh q3 r3 (i := 1) (x := Im 2 9 2 0) rfl rfl).mono ?_
 rintro e w11 ⟨rfl, H11⟩
 obtain ⟨T11, L11, _⟩ := HL10.out.then (S' := S4) H11
 have HL11 := Lib.hid L11
 clear H11 L11
 go_wp2_with fail
 go_at_call 12
 refine (ready_c 8 5 w11).mono ?_
 rintro e w12 ⟨x, rfl, hxc, hok, hsm, hm⟩
 have HX := Lib.hid (And.intro hxc (And.intro hok hsm))
 have HM := Lib.hid (HL11.out.mod0 hm)
 have HM15 := Lib.hid hm
 clear hxc hok hsm hm
 go_wp2_with fail
 go_at_call 11
 refine (addO_c HM.out.bh HM.out.bo.h0 HM.out.tab rfl q4 r4 (i := 0) (x' := Im 4 7 4 0) rfl rfl rfl HX.out.2.1 HX.out.2.2 5 ?hA).mono ?_
 case hA =>
  have : x.prio = 8 := by have := congrArg RdC.prio HX.out.1; exact this
  rw [this]
  decide
 rintro e w13 ⟨v, rfl, hv, T13, H13, hvT⟩
 rw [HX.out.1] at H13
 have HL13 : Hid (LS w b S5 T13 w13) := Lib.hid (HM.out.from1 (H13.bo HM.out.bo.h0))
 have HV13 := Lib.hid (And.intro hv hvT)
 clear H13 hvT hv HX HM
 go_wp2_with fail
 go_at_call 14
 refine (bpopY_c HL13.out.bh q5 r5 (i := 0) (x := Im 5 8 5 0) rfl rfl).mono ?_
 rintro e w14 ⟨rfl, H14⟩
 obtain ⟨T14, L14, m14, _⟩ := HL13.out.then (S' := S6) H14
 have HL14 := Lib.hid L14
 have hv := HV13.out.1.mod m14 HV13.out.2
 obtain ⟨a2, rfl, hva, _⟩ := hv.at
 have HV2 := Lib.hid hva
 clear H14 L14 m14 hv hva HV13
 go_wp2_with fail
 go_at_call 12
 refine (ready_c 99 6 w14).mono ?_
 rintro e w15 ⟨x, rfl, hxc, hok, hsm, hm⟩
 have HX := Lib.hid (And.intro hxc (And.intro hok hsm))
 have HM := Lib.hid (HL14.out.mod0 hm)
 have HM15 := Lib.hid hm
 clear hxc hok hsm hm
 go_wp2_with fail
 go_at_call 11
 have hv15 := HV2.out.mod0 (show Mod (fun _ => False) w14 w15 from HM15.out)
 refine (addN_c HM.out.bh rfl rfl HX.out.2.1 HX.out.2.2 6).mono ?_
 rintro e w16 ⟨rfl, m16⟩
 have HL16 := Lib.hid (HM.out.mod0 m16)
 have HV3 := Lib.hid (hv15.mod0 m16)
 have hb4 : ∀ w, (Instr.buildSlice 70 1 #[(0, .int .u64 4)]).run Tryz.prog w = .ok (.slice (some ⟨w.heap.size, 0, none⟩) 1 1) (w.alloc (.cells (nc 4) 32)) := bsU64 4
 clear m16 hv15 HX HM
 go_upto_region 12 with fail
 refine wp_gpass0 (T0 := fun _ => False) (K := fun _ _ => True) (κ := fun i => [0, 0, 0, 0, 0, 0, 0, 0, 0, 0, 0, 0, 3, 6, 0, 0, 0, 0, 0, 0, 0, 0, 0, 0, 0, 0, 0, 0, 0, 0, 0, 0].getD i 0) (υ := fun i => [[], [], [], [], [], [], [], [], [], [], [], [], [], [123], [], [], [], [], [], [], [], [], [], [], [], [], [], [], [], [], [], []].getD i []) [0, 1, 2, 3, 4, 5, 6, 7, 8, 9, 10, 11, 12, 13, 14, 15, 16, 17, 18, 19, 20, 21, 22, 23, 24, 25, 26, 27, 28, 29, 30, 31] (by kernel_rfl) (by kernel_rfl) (Good.true).cl (trivial) (fun _ h => h.elim) ?_
 have gK := Good.true
 (refine TG.v0 (v := ?v37) (by simp only [zK]; rfl) rfl (by rfl) (fun w1 => ?y37) ?n37; (case y37 => go_simp; try with_reducible rfl); try simp only [Act.put, zL])
 (refine TG.v0 (v := ?v38) (by simp only [zK]; rfl) rfl (by rfl) (fun w1 => ?y38) ?n38; (case y38 => go_simp; try with_reducible rfl); try simp only [Act.put, zL])
 (refine TG.v0 (v := ?v39) (by simp only [zK]; rfl) rfl (by rfl) (fun w1 => ?y39) ?n39; (case y39 => go_simp; try with_reducible rfl); try simp only [Act.put, zL])
 (refine TG.v0 (v := ?v40) (by simp only [zK]; rfl) rfl (by rfl) (fun w1 => ?y40) ?n40; (case y40 => go_simp; try with_reducible rfl); try simp only [Act.put, zL])
 (refine TG.v0 (v := ?v41) (by simp only [zK]; rfl) rfl (by rfl) (fun w1 => ?y41) ?n41; (case y41 => go_simp; try with_reducible rfl); try simp only [Act.put, zL])
 (refine TG.v0 (v := ?v42) (by simp only [zK]; rfl) rfl (by rfl) (fun w1 => ?y42) ?n42; (case y42 => go_simp; try with_reducible rfl); try simp only [Act.put, zL])
 (refine TG.v0 (v := ?v43) (by simp only [zK]; rfl) rfl (by rfl) (fun w1 => ?y43) ?n43; (case y43 => go_simp; try with_reducible rfl); try simp only [Act.put, zL])
 (refine TG.v0 (v := ?v44) (by simp only [zK]; rfl) rfl (by rfl) (fun w1 => ?y44) ?n44; (case y44 => go_simp; try with_reducible rfl); try simp only [Act.put, zL])
 (refine TG.v0 (v := ?v45) (by simp only [zK]; rfl) rfl (by rfl) (fun w1 => ?y45) ?n45; (case y45 => go_simp; try with_reducible rfl); try simp only [Act.put, zL])
 (refine TG.v0 (v := ?v46) (by simp only [zK]; rfl) rfl (by rfl) (fun w1 => ?y46) ?n46; (case y46 => go_simp; try with_reducible rfl); try simp only [Act.put, zL])
 (refine TG.v0 (v := ?v47) (by simp only [zK]; rfl) rfl (by rfl) (fun w1 => ?y47) ?n47; (case y47 => go_simp; try with_reducible rfl); try simp only [Act.put, zL])
 (refine TG.v0 (v := ?v48) (by simp only [zK]; rfl) rfl (by rfl) (fun w1 => ?y48) ?n48; (case y48 => go_simp; try with_reducible rfl); try simp only [Act.put, zL])
 (refine TG.bslice (by simp only [zK]; rfl) rfl (by rfl) rfl rfl ?hx49 hb4 (fun p123 hp123 _ => ?n49); (case hx49 => (simp only [List.map_toArray, List.map_cons, List.map_nil, Act.eval, zM]; (try rfl))); try simp only [Act.put, zL])
 (refine TG.callN (f := ?f50) (args := ?r50) (fun v => v = .bool true) gK (by simp only [zK]; rfl) rfl (by rfl) (fun w1 => ?y50) (fun T wq kq ltq hSq ub => ?hsp50) ?n50; (case y50 => (go_simp; (first | with_reducible rfl | (constructor <;> with_reducible rfl)))); (case hsp50 => (have kp123 := ub.box (p := p123) (by first | exact Bx.set_same _ _ _ | (simp only [Bx.set_same]; rfl)) (by first | decide | exact List.mem_singleton.2 rfl | simp); dsimp only [Value.cells] at kp123; have nUp123 := (ub p123 _ (by first | exact Bx.set_same _ _ _ | (simp only [Bx.set_same]; rfl)) (by first | decide | exact List.mem_singleton.2 rfl | simp)).1; exact (numbA_c (l := [4]) (m := [4]) (HV3.out.mod0 hSq) (SlAt.one kp123 4 rfl rfl) (by decide) (by decide)).mono (fun e w' h => ⟨_, h.1, rfl, h.2⟩))); rintro v50 hC; subst hC; try simp only [Act.put, zL])
 (refine TG.v0 (v := ?v51) (by simp only [zK]; rfl) rfl (by rfl) (fun w1 => ?y51) ?n51; (case y51 => go_simp; try with_reducible rfl); try simp only [Act.put, zL])
 (refine TG.v0 (v := ?v52) (by simp only [zK]; rfl) rfl (by rfl) (fun w1 => ?y52) ?n52; (case y52 => go_simp; try with_reducible rfl); try simp only [Act.put, zL])
 (refine TG.v0 (v := ?v53) (by simp only [zK]; rfl) rfl (by rfl) (fun w1 => ?y53) ?n53; (case y53 => go_simp; try with_reducible rfl); try simp only [Act.put, zL])
 (refine TG.v0 (v := ?v54) (by simp only [zK]; rfl) rfl (by rfl) (fun w1 => ?y54) ?n54; (case y54 => go_simp; try with_reducible rfl); try simp only [Act.put, zL])
 (refine TG.v0 (v := ?v55) (by simp only [zK]; rfl) rfl (by rfl) (fun w1 => ?y55) ?n55; (case y55 => go_simp; try with_reducible rfl); try simp only [Act.put, zL])
 (refine TG.v0 (v := ?v56) (by simp only [zK]; rfl) rfl (by rfl) (fun w1 => ?y56) ?n56; (case y56 => go_simp; try with_reducible rfl); try simp only [Act.put, zL])
 (refine TG.v0 (v := ?v57) (by simp only [zK]; rfl) rfl (by rfl) (fun w1 => ?y57) ?n57; (case y57 => go_simp; try with_reducible rfl); try simp only [Act.put, zL])
 (refine TG.v0 (v := ?v58) (by simp only [zK]; rfl) rfl (by rfl) (fun w1 => ?y58) ?n58; (case y58 => go_simp; try with_reducible rfl); try simp only [Act.put, zL])
 (refine TG.v0 (v := ?v59) (by simp only [zK]; rfl) rfl (by rfl) (fun w1 => ?y59) ?n59; (case y59 => go_simp; try with_reducible rfl); try simp only [Act.put, zL])
 (refine TG.v0 (v := ?v60) (by simp only [zK]; rfl) rfl (by rfl) (fun w1 => ?y60) ?n60; (case y60 => go_simp; try with_reducible rfl); try simp only [Act.put, zL])
 (refine TG.v0 (v := ?v61) (by simp only [zK]; rfl) rfl (by rfl) (fun w1 => ?y61) ?n61; (case y61 => go_simp; try with_reducible rfl); try simp only [Act.put, zL])
 (refine TG.v0 (v := ?v62) (by simp only [zK]; rfl) rfl (by rfl) (fun w1 => ?y62) ?n62; (case y62 => go_simp; try with_reducible rfl); try simp only [Act.put, zL])
 (refine TG.v0 (v := ?v63) (by simp only [zK]; rfl) rfl (by rfl) (fun w1 => ?y63) ?n63; (case y63 => go_simp; try with_reducible rfl); try simp only [Act.put, zL])
 (refine TG.v0 (v := ?v64) (by simp only [zK]; rfl) rfl (by rfl) (fun w1 => ?y64) ?n64; (case y64 => go_simp; try with_reducible rfl); try simp only [Act.put, zL])
 (refine TG.v0 (v := ?v65) (by simp only [zK]; rfl) rfl (by rfl) (fun w1 => ?y65) ?n65; (case y65 => go_simp; try with_reducible rfl); try simp only [Act.put, zL])
 (refine TG.v0 (v := ?v66) (by simp only [zK]; rfl) rfl (by rfl) (fun w1 => ?y66) ?n66; (case y66 => go_simp; try with_reducible rfl); try simp only [Act.put, zL])
 (refine TG.v0 (v := ?v67) (by simp only [zK]; rfl) rfl (by rfl) (fun w1 => ?y67) ?n67; (case y67 => go_simp; try with_reducible rfl); try simp only [Act.put, zL])
 (refine TG.v0 (v := ?v68) (by simp only [zK]; rfl) rfl (by rfl) (fun w1 => ?y68) ?n68; (case y68 => go_simp; try with_reducible rfl); try simp only [Act.put, zL])
 refine TG.nil (fun w17 ⟨TR, hr⟩ => ?_)
 have kp123 := hr.box p123 _ (by first | exact Bx.set_same _ _ _ | (simp only [Bx.set_same]; rfl)); dsimp only [Value.cells] at kp123; obtain ⟨gp123, nTp123, kp123⟩ := kp123
 clear gK
 have HL17 := Lib.hid (HL16.out.mod0 hr.mod)
 clear hr hb4 kp123
 have hi0 : ∀ w, (Instr.buildSlice 79 1 #[(0, .int .i64 0)]).run Tryz.prog w = .ok (.slice (some ⟨w.heap.size, 0, none⟩) 1 1) (w.alloc (.cells (ic (idn 0)) 3)) := bsIntL 0 (idn 0) rfl
 have hi1 : ∀ w, (Instr.buildSlice 79 1 #[(0, .int .i64 1)]).run Tryz.prog w = .ok (.slice (some ⟨w.heap.size, 0, none⟩) 1 1) (w.alloc (.cells (ic (idn 1)) 3)) := bsIntL 1 (idn 1) rfl
 go_wp2_with fail
 go_at_call 15
 refine (BackY_c HL17.out.bh (i := 0) (x := Im 5 8 5 1) rfl (by decide)).mono ?_
 rintro e w18 ⟨rfl, H18⟩
 obtain ⟨T18, L18, _⟩ := HL17.out.then (S' := S7) H18
 have HL18 := Lib.hid L18
 clear H18 L18
 go_wp2_with fail
 go_at_call 15
 refine (BackX_c HL18.out.bh (i := 0) (x := Im 5 8 5 0) rfl rfl).mono ?_
 rintro e w19 ⟨rfl, m19⟩
 have HL19 := Lib.hid (HL18.out.mod0 m19)
 clear m19
 go_wp2_with fail
 go_at_call 16
 refine (ParkY_c HL19.out.bh (i := 1) (x := Im 2 9 2 1) rfl rfl).mono ?_
 rintro e w20 ⟨rfl, H20⟩
 obtain ⟨T20, L20, _⟩ := HL19.out.then (S' := S8) H20
 have HL20 := Lib.hid L20
 clear H20 L20
 go_wp2_with fail
 go_at_call 18
 refine (bwait_c HL20.out.bh q8 r5).mono ?_
 rintro e w21 ⟨v, rfl, hv, m21⟩
 obtain ⟨a3, c3, rfl, hva, _⟩ := hv.at intT
 have HL21 := Lib.hid (HL20.out.mod0 m21)
 have HV4 := Lib.hid hva
 clear m21 hv hva
 go_wp2_with fail
 go_at_call 17
 refine (sameA_c (l := [idn 0]) (m := [idn 0]) (HV4.out.mod0 (.alloc (.refl _ _) _)) (SlAt.one (heap_alloc_new _ _) (idn 0) rfl rfl) (by decide) (by decide)).mono ?_
 rintro e w22 ⟨rfl, m22⟩
 have HL22 := Lib.hid (HL21.out.mod0 (.trans (.alloc (.refl _ _) _) m22))
 clear m22
 go_wp2_with fail
 go_at_call 19
 refine (bparked_c HL22.out.bh HL22.out.tab).mono ?_
 rintro e w23 ⟨v, rfl, hv, m23⟩
 rw [show (pkd S8).map idn = [idn 1] from rfl] at hv
 obtain ⟨a5, rfl, hva, _⟩ := hv.at
 have HL23 := Lib.hid (HL22.out.mod0 m23)
 have HV5 := Lib.hid hva
 clear m23 hv hva
 go_wp2_with fail
 go_at_call 17
 refine (sameA_c (l := [idn 1]) (m := [idn 1]) (HV5.out.mod0 (.alloc (.refl _ _) _)) (SlAt.one (heap_alloc_new _ _) (idn 1) rfl rfl) (by decide) (by decide)).mono ?_
 rintro e w24 ⟨rfl, m24⟩
 have HL24 := Lib.hid (HL23.out.mod0 (.trans (.alloc (.refl _ _) _) m24))
 clear m24
 go_wp2_with fail
 go_ret
 exact ⟨rfl, HL24.out.m⟩
end Go.Proofs.YtdeghpmlhcaedaaGreatDoor
namespace Go.Proofs.YtdeghpmlhcaedaaGreatDoor
open Go.RowKit
theorem nlt_tr {a b c : Nd} (h1 : nlt a b = true) (h2 : nlt b c = true) : nlt a c = true := by
 cases h : nlt a c with
 | true => rfl
 | false =>
  have := nlt_negtrans h (nlt_asymm h2)
  rw [h1] at this
  cases this
theorem srt_ins (x : Nd) : ∀ D : List Nd, Srt D → (∀ y ∈ D, y ≠ x) → ∃ E, E.Perm (x :: D) ∧ Srt E
 | [], _, _ => ⟨[x], .refl _, List.pairwise_singleton _ _⟩
 | y :: r, hS, hn => by
  cases h : nlt x y with
  | true =>
   refine ⟨x :: y :: r, .refl _, List.pairwise_cons.2 ⟨fun z hz => ?_, hS⟩⟩
   rcases List.mem_cons.1 hz with rfl | hz
   ·exact h
   ·exact nlt_tr h (List.rel_of_pairwise_cons hS hz)
  | false =>
   obtain ⟨E, hE, hES⟩ := srt_ins x r (List.Pairwise.of_cons hS) (fun z hz => hn z (List.mem_cons_of_mem _ hz))
   have hyx : nlt y x = true := by
    cases h2 : nlt y x with
    | true => rfl
    | false => exact absurd (nlt_total h2 h) (hn y (List.mem_cons_self ..))
   refine ⟨y :: E, (hE.cons y).trans (.swap _ _ _), List.pairwise_cons.2 ⟨fun z hz => ?_, hES⟩⟩
   rcases List.mem_cons.1 (hE.mem_iff.1 hz) with rfl | hz
   ·exact hyx
   ·exact List.rel_of_pairwise_cons hS hz
theorem srt_exists : ∀ C : List Nd, C.Nodup → ∃ D, D.Perm C ∧ Srt D
 | [], _ => ⟨[], .refl _, .nil⟩
 | x :: r, h => by
  obtain ⟨D, hD, hS⟩ := srt_exists r (List.nodup_cons.1 h).2
  obtain ⟨E, hE, hES⟩ := srt_ins x D hS (fun y hy e => (List.nodup_cons.1 h).1 (by rw [← e]; exact hD.mem_iff.1 hy))
  exact ⟨E, hE.trans (hD.cons x), hES⟩
section
variable {N : Nat} {l : List UInt64} {f : Nat → Nat}
end
end Go.Proofs.YtdeghpmlhcaedaaGreatDoor
namespace Go.Proofs.YtdeghpmlhcaedaaGreatDoor
open Go.RowKit
structure Dq where
 id : Nat
 n : UInt64
 p : UInt64
 pl : Nat
 sent : Bool
def Dq.nd (y : Dq) : Nd := ⟨⟨y.p, y.n⟩, idn y.id⟩
def dOf (k : Nat) (x : It) : Dq := ⟨k, x.n, x.r.prio, x.pl, x.sent⟩
def docL : Nat → List (Option It) → List Dq
 | _, [] => []
 | k, none :: r => docL (k + 1) r
 | k, some x :: r => dOf k x :: docL (k + 1) r
theorem docL_append : ∀ (A : List (Option It)) (k : Nat) (B : List (Option It)), docL k (A ++ B) = docL k A ++ docL (k + A.length) B
 | [], k, B => rfl
 | none :: A, k, B => by
  show docL (k + 1) (A ++ B) = docL (k + 1) A ++ _
  rw [docL_append A (k + 1) B, List.length_cons, show k + 1 + A.length = k + (A.length + 1) by omega]
 | some x :: A, k, B => by
  show dOf k x :: docL (k + 1) (A ++ B) = dOf k x :: docL (k + 1) A ++ _
  rw [docL_append A (k + 1) B, List.length_cons, show k + 1 + A.length = k + (A.length + 1) by omega]
  rfl
theorem docL_len : ∀ (S : List (Option It)) (k : Nat), (docL k S).length = S.countP Option.isSome
 | [], k => rfl
 | none :: S, k => by
  show (docL (k + 1) S).length = _
  rw [docL_len S (k + 1), List.countP_cons]
  rfl
 | some x :: S, k => by
  show (docL (k + 1) S).length + 1 = _
  rw [docL_len S (k + 1), List.countP_cons]
  rfl
theorem docL_mem : ∀ {S : List (Option It)} {k : Nat} {y : Dq}, y ∈ docL k S → ∃ i x, S[i]? = some (some x) ∧ y = dOf (k + i) x
 | [], k, y, h => by cases h
 | none :: S, k, y, h => by
  obtain ⟨i, x, h1, h2⟩ := docL_mem (S := S) (k := k + 1) h
  exact ⟨i + 1, x, h1, by rw [h2, show k + 1 + i = k + (i + 1) by omega]⟩
 | some x :: S, k, y, h => by
  rcases List.mem_cons.1 h with rfl | h
  ·exact ⟨0, x, rfl, rfl⟩
  ·obtain ⟨i, x, h1, h2⟩ := docL_mem (S := S) (k := k + 1) h
   exact ⟨i + 1, x, h1, by rw [h2, show k + 1 + i = k + (i + 1) by omega]⟩
theorem docL_srt : ∀ (S : List (Option It)) (k : Nat), (docL k S).Pairwise (fun a b => a.id < b.id)
 | [], k => .nil
 | none :: S, k => docL_srt S (k + 1)
 | some x :: S, k => List.pairwise_cons.2 ⟨fun y hy => by
   obtain ⟨i, z, _, rfl⟩ := docL_mem hy
   show k < k + 1 + i
   omega, docL_srt S (k + 1)⟩
theorem cut1 {α : Type} (A : List α) (x : α) (B : List α) : (A ++ x :: B).take A.length ++ (A ++ x :: B).drop (A.length + 1) = A ++ B := by
 rw [List.take_left' rfl, show A ++ x :: B = (A ++ [x]) ++ B by simp, List.drop_left' (by simp)]
def posD (S : List (Option It)) (i : Nat) : Nat := (docL 0 (S.take i)).length
section
variable {S : List (Option It)} {i : Nat} {x : It}
theorem docL_split (h : S[i]? = some (some x)) : docL 0 S = docL 0 (S.take i) ++ dOf i x :: docL (i + 1) (S.drop (i + 1)) := by
 have hi := (List.getElem?_eq_some_iff.1 h).1
 have h1 : S = S.take i ++ some x :: S.drop (i + 1) := by
  have h2 := (List.getElem?_eq_some_iff.1 h).2
  rw [← h2, List.getElem_cons_drop, List.take_append_drop]
 conv => lhs; rw [h1]
 rw [docL_append, List.length_take, Nat.min_eq_left (by omega), Nat.zero_add]
 rfl
theorem docL_at (h : S[i]? = some (some x)) : (docL 0 S)[posD S i]? = some (dOf i x) := by
 rw [docL_split h]
 unfold posD
 rw [List.getElem?_append_right (Nat.le_refl _), Nat.sub_self]
 rfl
theorem docL_set (h : S[i]? = some (some x)) (y : It) : docL 0 (S.set i (some y)) = (docL 0 S).set (posD S i) (dOf i y) := by
 have hi := (List.getElem?_eq_some_iff.1 h).1
 have h2 : (S.set i (some y))[i]? = some (some y) := by rw [List.getElem?_set_self hi]
 rw [docL_split h2, docL_split h, List.take_set_of_le (Nat.le_refl _), List.drop_set_of_lt (by omega)]
 unfold posD
 rw [set_split]
theorem docL_del (h : S[i]? = some (some x)) : docL 0 (S.set i none) = (docL 0 S).take (posD S i) ++ (docL 0 S).drop (posD S i + 1) := by
 have hi := (List.getElem?_eq_some_iff.1 h).1
 have h1 : S.set i none = S.take i ++ none :: S.drop (i + 1) := by
  rw [List.set_eq_take_append_cons_drop, if_pos hi]
 rw [h1, docL_append, List.length_take, Nat.min_eq_left (by omega), Nat.zero_add, docL_split h]
 exact (cut1 _ _ _).symm
theorem docL_pos {q : Nat} {y : Dq} (h : (docL 0 S)[q]? = some y) : ∃ x, S[y.id]? = some (some x) ∧ y = dOf y.id x ∧ q = posD S y.id := by
 obtain ⟨j, z, h1, h2⟩ := docL_mem (List.mem_of_getElem? h)
 rw [Nat.zero_add] at h2
 subst h2
 refine ⟨z, h1, rfl, ?_⟩
 have h3 := docL_at h1
 have h4 := docL_srt S 0
 obtain ⟨hq, hqe⟩ := List.getElem?_eq_some_iff.1 h
 obtain ⟨hp, hpe⟩ := List.getElem?_eq_some_iff.1 h3
 rcases Nat.lt_trichotomy q (posD S j) with hlt | heq | hgt
 ·have h5 := (List.pairwise_iff_getElem.1 h4) q (posD S j) hq hp hlt
  rw [hqe, hpe] at h5
  exact absurd h5 (Nat.lt_irrefl _)
 ·exact heq
 ·have h5 := (List.pairwise_iff_getElem.1 h4) (posD S j) q hp hq hgt
  rw [hqe, hpe] at h5
  exact absurd h5 (Nat.lt_irrefl _)
end
theorem free_some : ∀ {S : List (Option It)} {n : Nat}, (∀ j, j < n → ∃ y, S[j]? = some (some y)) → ∀ (k : Nat), docL k (S.take n) = docL k (S.take n) ∧ (docL k (S.take n)).length = n
 | S, 0, _, k => by simp [docL]
 | [], n + 1, h, k => by
  obtain ⟨y, hy⟩ := h 0 (by omega)
  cases hy
 | o :: S, n + 1, h, k => by
  obtain ⟨y, hy⟩ := h 0 (by omega)
  simp only [zC, Option.some.injEq] at hy
  subst hy
  refine ⟨rfl, ?_⟩
  show (docL (k + 1) (S.take n)).length + 1 = n + 1
  rw [(free_some (S := S) (n := n) (fun j hj => by simpa using h (j + 1) (by omega)) (k + 1)).2]
section
variable {S : List (Option It)} {n : Nat}
theorem free_pos (h : FreeS S n) {j : Nat} (hj : j ≤ n) : posD S j = j := (free_some (fun i hi => h.2 i (by omega)) 0).2
theorem free_id (h : FreeS S n) {j : Nat} (hj : j < n) : ∃ y, (docL 0 S)[j]? = some y ∧ y.id = j := by
 obtain ⟨x, hx⟩ := h.2 j hj
 have h1 := docL_at hx
 rw [free_pos h (Nat.le_of_lt hj)] at h1
 exact ⟨_, h1, rfl⟩
theorem free_no (h : FreeS S n) {y : Dq} (hy : (docL 0 S)[n]? = some y) : y.id ≠ n := by
 intro e
 obtain ⟨x, hx, _⟩ := docL_pos hy
 rw [e, h.1] at hx
 cases hx
theorem docL_ins (h : FreeS S n) (x : It) : docL 0 (S.set n (some x)) = (docL 0 S).take n ++ dOf n x :: (docL 0 S).drop n := by
 have hn := (List.getElem?_eq_some_iff.1 h.1).1
 have h0 : S = S.take n ++ none :: S.drop (n + 1) := by
  have h2 := (List.getElem?_eq_some_iff.1 h.1).2
  rw [← h2, List.getElem_cons_drop, List.take_append_drop]
 have h1 : docL 0 S = docL 0 (S.take n) ++ docL (n + 1) (S.drop (n + 1)) := by
  conv => lhs; rw [h0]
  rw [docL_append, List.length_take, Nat.min_eq_left (by omega), Nat.zero_add]
  rfl
 have h3 : (S.set n (some x))[n]? = some (some x) := by rw [List.getElem?_set_self hn]
 have h4 := free_pos h (Nat.le_refl n)
 unfold posD at h4
 rw [docL_split h3, List.take_set_of_le (Nat.le_refl _), List.drop_set_of_lt (by omega), h1]
 rw [List.take_left' h4, List.drop_left' h4]
theorem free_ex : ∀ {S : List (Option It)}, S.countP Option.isSome < S.length → ∃ n, FreeS S n
 | [], h => by simp at h
 | none :: S, h => ⟨0, rfl, fun i hi => absurd hi (Nat.not_lt_zero i)⟩
 | some x :: S, h => by
  rw [List.countP_cons, List.length_cons] at h
  obtain ⟨n, h1, h2⟩ := free_ex (S := S) (by simp at h; omega)
  refine ⟨n + 1, by simpa using h1, fun i hi => ?_⟩
  cases i with
  | zero => exact ⟨x, rfl⟩
  | succ i => simpa using h2 i (by omega)
end
theorem docL_wtg : ∀ (S : List (Option It)) (k : Nat), ((docL k S).filter (fun y => y.pl == 0)).map Dq.nd = wtg k S
 | [], k => rfl
 | none :: S, k => docL_wtg S (k + 1)
 | some x :: S, k => by
  show ((dOf k x :: docL (k + 1) S).filter _).map Dq.nd = nodeOf k (some x) ++ wtg (k + 1) S
  rw [← docL_wtg S (k + 1)]
  by_cases h : x.pl = 0
  ·rw [List.filter_cons_of_pos (by simp [dOf, h])]
   simp [nodeOf, h, dOf, Dq.nd, It.rk]
  ·rw [List.filter_cons_of_neg (by simp [dOf, h])]
   simp [nodeOf, h]
theorem docL_pkd : ∀ (S : List (Option It)) (k : Nat), ((docL k S).filter (fun y => y.pl == 2)).map Dq.id = (pkd S).map (fun i => k + i)
 | [], k => rfl
 | o :: S, k => by
  have hp : pkd (o :: S) = (if isPk (some o) then [0] else []) ++ (pkd S).map (fun i => i + 1) := by
   unfold pkd
   rw [List.length_cons, List.range_succ_eq_map, List.filter_cons]
   have h2 : (List.map Nat.succ (List.range S.length)).filter (fun i => isPk (o :: S)[i]?) = ((List.range S.length).filter (fun i => isPk S[i]?)).map (fun i => i + 1) := by
    rw [List.filter_map]
    rfl
   rw [h2]
   by_cases h : isPk (some o) = true
   ·simp [h]
   ·simp [h]
  rw [hp, List.map_append, List.map_map]
  have ih := docL_pkd S (k + 1)
  have e : (pkd S).map ((fun i => k + i) ∘ fun i => i + 1) = (pkd S).map (fun i => k + 1 + i) := List.map_congr_left (fun i _ => by simp only [Function.comp]; omega)
  rw [e, ← ih]
  cases o with
  | none => rfl
  | some x =>
   show ((dOf k x :: docL (k + 1) S).filter _).map Dq.id = _
   by_cases h : x.pl = 2
   ·rw [List.filter_cons_of_pos (by simp [dOf, h])]
    simp [isPk, h, dOf]
   ·rw [List.filter_cons_of_neg (by simp [dOf, h])]
    simp [isPk, h]
theorem docL_nd {S : List (Option It)} (hS : S.length ≤ 4096) {j j' : Nat} {y z : Dq} (hy : (docL 0 S)[j]? = some y) (hz : (docL 0 S)[j']? = some z) (h : y.nd = z.nd) : j = j' := by
 obtain ⟨a, ha, _, e1⟩ := docL_pos hy
 obtain ⟨b, hb, _, e2⟩ := docL_pos hz
 have h1 := (List.getElem?_eq_some_iff.1 ha).1
 have h2 := (List.getElem?_eq_some_iff.1 hb).1
 have h3 : y.id = z.id := idn_inj (by omega) (by omega) (congrArg Nd.id h)
 rw [e1, e2, h3]
theorem srt_head {D : List Nd} (hS : Srt D) {x : Nd} (hx : x ∈ D) (h : ∀ y ∈ D, y ≠ x → nlt x y = true) : D.head? = some x := by
 cases D with
 | nil => cases hx
 | cons z r =>
  by_cases e : z = x
  ·rw [e]
   rfl
  ·have h1 := h z (List.mem_cons_self ..) e
   rcases List.mem_cons.1 hx with h2 | h2
   ·exact absurd h2.symm e
   ·have h3 := List.rel_of_pairwise_cons hS h2
    rw [nlt_asymm h1] at h3
    cases h3
theorem srt_last {D : List Nd} (hS : Srt D) {x : Nd} (hx : x ∈ D) (h : ∀ y ∈ D, y ≠ x → nlt y x = true) : D.getLast? = some x := by
 obtain ⟨A, B, rfl⟩ := List.append_of_mem hx
 cases B with
 | nil => simp
 | cons z r =>
  exfalso
  have h1 : nlt x z = true := by
   have h2 := (List.pairwise_append.1 hS).2.1
   exact List.rel_of_pairwise_cons h2 (List.mem_cons_self ..)
  by_cases e : z = x
  ·rw [e, nlt_irrefl] at h1
   cases h1
  ·have h3 := h z (by simp) e
   rw [nlt_asymm h1] at h3
   cases h3
def nl2 (last : Bool) (a b : Nd) : Bool := if last then nlt b a else nlt a b
def EndI (last : Bool) (L : List Dq) (i : Nat) : Option Nat → Prop
 | none => ∀ j y, j < i → L[j]? = some y → y.pl ≠ 0
 | some j => j < i ∧ ∃ y, L[j]? = some y ∧ y.pl = 0 ∧ ∀ j' z, j' < i → j' ≠ j → L[j']? = some z → z.pl = 0 → nl2 last y.nd z.nd = true
section
variable {last : Bool} {L : List Dq} {i : Nat}
theorem EndI.zero : EndI last L 0 none := fun j y h => absurd h (Nat.not_lt_zero j)
theorem EndI.skip {o : Option Nat} (h : EndI last L i o) {y : Dq} (hy : L[i]? = some y) (hp : y.pl ≠ 0) : EndI last L (i + 1) o := by
 cases o with
 | none =>
  intro j z hj hz
  by_cases e : j = i
  ·subst e
   rw [hy] at hz
   cases hz
   exact hp
  ·exact h j z (by omega) hz
 | some b =>
  obtain ⟨h1, x, h2, h3, h4⟩ := h
  refine ⟨by omega, x, h2, h3, fun j z hj hne hz hzp => ?_⟩
  by_cases e : j = i
  ·subst e
   rw [hy] at hz
   cases hz
   exact absurd hzp hp
  ·exact h4 j z (by omega) hne hz hzp
theorem EndI.first (h : EndI last L i none) {y : Dq} (hy : L[i]? = some y) (hp : y.pl = 0) : EndI last L (i + 1) (some i) :=
 ⟨by omega, y, hy, hp, fun j z hj hne hz hzp => absurd hzp (h j z (by omega) hz)⟩
theorem nl2_tr {a b c : Nd} (h1 : nl2 last a b = true) (h2 : nl2 last b c = true) : nl2 last a c = true := by
 cases last with
 | false => exact nlt_tr h1 h2
 | true => exact nlt_tr h2 h1
theorem EndI.step (hn : ∀ (j j' : Nat) (y z : Dq), L[j]? = some y → L[j']? = some z → y.nd = z.nd → j = j') {b : Nat} (h : EndI last L i (some b)) {y x : Dq} (hy : L[i]? = some y) (hp : y.pl = 0) (hx : L[b]? = some x) :
  EndI last L (i + 1) (some (if nlt y.nd x.nd != last then i else b)) := by
 obtain ⟨h1, x', h2, h3, h4⟩ := h
 rw [hx] at h2
 cases h2
 have hne : y.nd ≠ x.nd := fun e => by have := hn _ _ _ _ hy hx e; omega
 cases hq : nlt y.nd x.nd != last with
 | true =>
  rw [if_pos rfl]
  have hyx : nl2 last y.nd x.nd = true := by
   cases last with
   | false => simpa [nl2] using hq
   | true =>
    have h5 : nlt y.nd x.nd = false := by simpa using hq
    show nlt x.nd y.nd = true
    cases h6 : nlt x.nd y.nd with
    | true => rfl
    | false => exact absurd (nlt_total h5 h6) hne
  refine ⟨by omega, y, hy, hp, fun j z hj hji hz hzp => ?_⟩
  by_cases e : j = b
  ·subst e
   rw [hx] at hz
   cases hz
   exact hyx
  ·exact nl2_tr hyx (h4 j z (by omega) e hz hzp)
 | false =>
  rw [if_neg (by simp)]
  have hxy : nl2 last x.nd y.nd = true := by
   cases last with
   | true => simpa [nl2] using hq
   | false =>
    have h5 : nlt y.nd x.nd = false := by simpa using hq
    show nlt x.nd y.nd = true
    cases h6 : nlt x.nd y.nd with
    | true => rfl
    | false => exact absurd (nlt_total h5 h6) hne
  refine ⟨by omega, x, hx, h3, fun j z hj hjb hz hzp => ?_⟩
  by_cases e : j = i
  ·subst e
   rw [hy] at hz
   cases hz
   exact hxy
  ·exact h4 j z (by omega) hjb hz hzp
end
section
variable {S : List (Option It)} {last : Bool}
theorem end_none (h : EndI last (docL 0 S) (docL 0 S).length none) : wtg 0 S = [] := by
 rw [← docL_wtg S 0]
 have h1 : (docL 0 S).filter (fun y => y.pl == 0) = [] := List.filter_eq_nil_iff.2 (fun y hy => by
  obtain ⟨j, hj⟩ := List.mem_iff_getElem?.1 hy
  have := h j y (List.getElem?_eq_some_iff.1 hj).1 hj
  simpa using this)
 rw [h1]
 rfl
theorem end_some {b : Nat} (h : EndI last (docL 0 S) (docL 0 S).length (some b)) {D : List Nd} (hD : D.Perm (wtg 0 S)) (hS : Srt D) :
  ∃ y x, (docL 0 S)[b]? = some y ∧ S[y.id]? = some (some x) ∧ x.pl = 0 ∧ y = dOf y.id x ∧ (if last then D.getLast? else D.head?) = some ⟨x.rk, idn y.id⟩ := by
 obtain ⟨h1, y, h2, h3, h4⟩ := h
 obtain ⟨x, hx, hyx, _⟩ := docL_pos h2
 have hpl : x.pl = 0 := by rw [hyx] at h3; exact h3
 have hnd : y.nd = ⟨x.rk, idn y.id⟩ := by
  rw [hyx]
  rfl
 have hmem : y.nd ∈ D := by
  rw [hD.mem_iff, ← docL_wtg S 0]
  exact List.mem_map.2 ⟨y, List.mem_filter.2 ⟨List.mem_of_getElem? h2, by simp [h3]⟩, rfl⟩
 have hall : ∀ z ∈ D, z ≠ y.nd → nl2 last y.nd z = true := fun z hz hne => by
  rw [hD.mem_iff, ← docL_wtg S 0] at hz
  obtain ⟨v, hv, rfl⟩ := List.mem_map.1 hz
  obtain ⟨hv1, hv2⟩ := List.mem_filter.1 hv
  obtain ⟨j, hj⟩ := List.mem_iff_getElem?.1 hv1
  exact h4 j v (List.getElem?_eq_some_iff.1 hj).1 (fun e => by
   subst e
   rw [h2] at hj
   cases hj
   exact hne rfl) hj (by simpa using hv2)
 refine ⟨y, x, h2, hx, hpl, hyx, ?_⟩
 rw [← hnd]
 cases last with
 | false => exact srt_head hS hmem hall
 | true => exact srt_last hS hmem hall
end
theorem ins_srt {l : List Dq} {x : Dq} (hS : Srt (l.map Dq.nd)) {k : Nat} (hk : k ≤ l.length) (h1 : ∀ j y, j < k → l[j]? = some y → nlt y.nd x.nd = true) (h2 : ∀ y, l[k]? = some y → nlt y.nd x.nd = false) (hne : ∀ y ∈ l, y.nd ≠ x.nd) : Srt ((l.take k ++ [x] ++ l.drop k).map Dq.nd) := by
 have hS2 := hS
 rw [← List.take_append_drop k l, List.map_append] at hS2
 obtain ⟨hA, hB, hAB⟩ := List.pairwise_append.1 hS2
 have hxB : ∀ z ∈ (l.drop k).map Dq.nd, nlt x.nd z = true := by
  intro z hz
  cases hd : l.drop k with
  | nil => rw [hd] at hz; cases hz
  | cons v r =>
   have hv : l[k]? = some v := by
    have h3 := congrArg (fun q => q[0]?) hd
    simpa using h3
   have hxv : nlt x.nd v.nd = true := by
    cases h6 : nlt x.nd v.nd with
    | true => rfl
    | false => exact absurd (nlt_total (h2 v hv) h6) (hne v (List.mem_of_getElem? hv))
   rw [hd, List.map_cons] at hz hB
   rcases List.mem_cons.1 hz with rfl | hz
   ·exact hxv
   ·exact nlt_tr hxv (List.rel_of_pairwise_cons hB hz)
 rw [List.append_assoc, List.map_append, List.map_append]
 refine List.pairwise_append.2 ⟨hA, List.pairwise_cons.2 ⟨fun z hz => hxB z (by simpa using hz), by simpa using hB⟩, fun a ha z hz => ?_⟩
 obtain ⟨y, hy, rfl⟩ := List.mem_map.1 ha
 obtain ⟨j, hj⟩ := List.mem_iff_getElem?.1 hy
 have hjk : j < k := by
  have h3 := (List.getElem?_eq_some_iff.1 hj).1
  rw [List.length_take] at h3
  omega
 have hyx : nlt y.nd x.nd = true := h1 j y hjk (by rw [List.getElem?_take, if_pos hjk] at hj; exact hj)
 rcases List.mem_append.1 hz with hz | hz
 ·simp only [List.map_cons, List.map_nil, List.mem_singleton] at hz
  rw [hz]
  exact hyx
 ·exact nlt_tr hyx (hxB z hz)
def WtI (L : List Dq) (i : Nat) (l : List Dq) : Prop := Srt (l.map Dq.nd) ∧ l.Perm ((L.take i).filter (fun y => y.pl == 0))
theorem WtI.skip {L l : List Dq} {i : Nat} (h : WtI L i l) {y : Dq} (hy : L[i]? = some y) (hp : y.pl ≠ 0) : WtI L (i + 1) l := by
 refine ⟨h.1, ?_⟩
 rw [List.take_add_one, hy, List.filter_append]
 have : (some y).toList.filter (fun y => y.pl == 0) = [] := by simp [hp]
 rw [this, List.append_nil]
 exact h.2
theorem WtI.ins {L l : List Dq} {i : Nat} (hn : ∀ (j j' : Nat) (y z : Dq), L[j]? = some y → L[j']? = some z → y.nd = z.nd → j = j') (h : WtI L i l) {y : Dq} (hy : L[i]? = some y) (hp : y.pl = 0) {k : Nat} (hk : k ≤ l.length) (h1 : ∀ j z, j < k → l[j]? = some z → nlt z.nd y.nd = true) (h2 : ∀ z, l[k]? = some z → nlt z.nd y.nd = false) : WtI L (i + 1) (l.take k ++ [y] ++ l.drop k) := by
 refine ⟨ins_srt h.1 hk h1 h2 (fun z hz e => ?_), ?_⟩
 ·have h3 := (List.mem_filter.1 (h.2.mem_iff.1 hz)).1
  obtain ⟨j, hj⟩ := List.mem_iff_getElem?.1 h3
  rw [List.getElem?_take] at hj
  split at hj
  case isTrue hji =>
   have := hn _ _ _ _ hj hy e
   omega
  case isFalse => cases hj
 ·rw [List.take_add_one, hy, List.filter_append]
  have h3 : (some y).toList.filter (fun y => y.pl == 0) = [y] := by simp [hp]
  rw [h3, List.append_assoc]
  refine List.perm_middle.trans (.trans ?_ (List.perm_append_comm (l₁ := [y])))
  show (y :: (l.take k ++ l.drop k)).Perm _
  rw [List.take_append_drop]
  exact h.2.cons y
theorem WtI.done {S : List (Option It)} {l : List Dq} (h : WtI (docL 0 S) (docL 0 S).length l) {D : List Nd} (hD : D.Perm (wtg 0 S)) (hS : Srt D) : l.map Dq.nd = D := by
 refine srt_unique ?_ h.1 hS
 have h1 := h.2
 rw [List.take_length] at h1
 refine (h1.map Dq.nd).trans ?_
 rw [docL_wtg]
 exact hD.symm
end Go.Proofs.YtdeghpmlhcaedaaGreatDoor
namespace Go.Proofs.YtdeghpmlhcaedaaGreatDoor
open Go.RowKit Go.Sort
open Go.ChangeMaps (setBlock)
attribute [local go_sem ↓] wlRk ldRk stRk eqRk eqRk2
attribute [local go_sem] rkc_size ndc_size cell_blk frozen_blk one_int one_bool one_ptr one_slice one_map Value.cells rkc_all1
section
variable {α : Type} {f : α → Array Value} {n B : Nat} {P : Program} {T E : TypeId}
theorem SlAt.take {w : World} {a : Option Addr} {l : List α} (h : SlAt f n w a l) (k : Nat) : SlAt f n w a (l.take k) := by
 rcases h with rfl | ⟨b, o, C, U, fr, rfl, hb, hc⟩
 ·exact .inl (by simp)
 ·refine .inr ⟨b, o, C, U, fr, rfl, hb, fun i x hx => hc i x ?_⟩
  rw [List.getElem?_take] at hx
  split at hx
  ·exact hx
  ·cases hx
theorem SlAt.drop {w : World} {g o : Nat} {l : List α} (h : SlAt f n w (some ⟨g, o, none⟩) l) (k : Nat) : SlAt f n w (some ⟨g, o + k * n, none⟩) (l.drop k) := by
 rcases h with rfl | ⟨b, o', C, U, fr, e, hb, hc⟩
 ·exact .inl (by simp)
 ·cases e
  refine .inr ⟨g, _, C, U, fr, rfl, hb, fun i x hx => ?_⟩
  rw [List.getElem?_drop] at hx
  have := hc (k + i) x hx
  rw [Nat.add_mul, ← Nat.add_assoc] at this
  exact this
theorem own_takeR (hT : ElT P T E f n B) {w : World} {base : Nat} {v : Value} {l : List α} (h : SlOwn f n E w base v l) {k : Nat} (hk : k ≤ l.length) :
  ∃ a c, (∀ w2, (Instr.sliceAt T v none (some (.int .i64 (k : Int))) none).run P w2 = .ok (.slice a k c) w2) ∧ SlAt f n w a (l.take k) ∧ ∀ b o, a = some ⟨b, o, none⟩ → v.ownBlock = some b := by
 obtain ⟨a, c, h1, h2, h3, h4⟩ := h.at hT
 rcases h.2 with ⟨rfl, hn⟩ | ⟨g, cap, cur, rfl, hb, hg, hnc, hcm, hcs, htake⟩
 ·obtain rfl : l = [] := List.eq_nil_of_length_eq_zero hn
  obtain rfl : k = 0 := by simpa using hk
  obtain ⟨i0, z, hi, hz, hz1, hz2, hz3⟩ := hT.info
  refine ⟨none, 0, fun w2 => ?_, .inl (by simp), fun b o e => by cases e⟩
  simp only [Instr.sliceAt, Instr.slice, Instr.sliceBounds, Instr.sliceBound, asIntOf, sizeOf, typeInfo, run_underlying hT.u, hi, Sem.run_bind, Sem.run_pure, Result.andThen_ok]
  rw [if_pos ⟨by omega, by omega⟩]
  simp [Sem.run_pure, Result.andThen_ok, Go.program, Sem.run, hi, hz1]
 ·injection h1 with e1 e2 e3
  subst e1
  exact ⟨_, cap, fun w2 => sl_take hT (by omega) w2, h2.take k, fun b o e => by cases e; rfl⟩
theorem own_dropR (hT : ElT P T E f n B) {w : World} {base : Nat} {v : Value} {l : List α} (h : SlOwn f n E w base v l) {k : Nat} (hk : k ≤ l.length) :
  ∃ a c, (∀ w2, (Instr.sliceAt T v (some (.int .i64 (k : Int))) none none).run P w2 = .ok (.slice a (l.drop k).length c) w2) ∧ SlAt f n w a (l.drop k) ∧ ∀ b o, a = some ⟨b, o, none⟩ → v.ownBlock = some b := by
 obtain ⟨a, c, h1, h2, h3, h4⟩ := h.at hT
 rcases h.2 with ⟨rfl, hn⟩ | ⟨g, cap, cur, rfl, hb, hg, hnc, hcm, hcs, htake⟩
 ·obtain rfl : l = [] := List.eq_nil_of_length_eq_zero hn
  obtain rfl : k = 0 := by simpa using hk
  obtain ⟨i0, z, hi, hz, hz1, hz2, hz3⟩ := hT.info
  refine ⟨none, 0, fun w2 => ?_, .inl (by simp), fun b o e => by cases e⟩
  simp only [Instr.sliceAt, Instr.slice, Instr.sliceBounds, Instr.sliceBound, asIntOf, sizeOf, typeInfo, run_underlying hT.u, hi, Sem.run_bind, Sem.run_pure, Result.andThen_ok]
  rw [if_pos ⟨by omega, by omega⟩]
  simp [Sem.run_pure, Result.andThen_ok, Go.program, Sem.run, hi, hz1]
 ·injection h1 with e1 e2 e3
  subst e1
  refine ⟨some (if cap = k then ⟨g, 0, none⟩ else ⟨g, 0 + k * n, none⟩), cap - k, fun w2 => ?_, ?_, fun b o e => by split at e <;> cases e <;> rfl⟩
  ·rw [sl_drop hT hk hnc w2, List.length_drop]
  ·by_cases hc : cap = k
   ·rw [if_pos hc, List.drop_of_length_le (by omega)]
    exact .inl rfl
   ·rw [if_neg hc]
    exact h2.drop k
end
set_option maxHeartbeats 1600000 in
theorem rAhead_c (a b : Rk) (w : World) : Calls Tryz.prog 54 #[.agg (rkc a), .agg (rkc b)] w fun e w' => e = .returned (.bool (Ahead a b)) ∧ Mod (fun _ => False) w w' := by
 go_enter Tryz.func54, Tryz.ntmps54
 go_upto_region 1 with fail
 have k1 := (fresh2 w (.cells (rkc a) 109) (.cells (rkc b) 109)).1
 have k2 := (fresh2 w (.cells (rkc a) 109) (.cells (rkc b) 109)).2
 have m2 : Mod (fun _ => False) w ((w.alloc (.cells (rkc a) 109)).alloc (.cells (rkc b) 109)) := ((Mod.refl _ _).alloc _).alloc _
 generalize (w.alloc (.cells (rkc a) 109)).alloc (.cells (rkc b) 109) = w2 at *
 generalize w.heap.size = n at *
 obtain ⟨p, m⟩ := a
 obtain ⟨p', m'⟩ := b
 simp only [rkc] at k1 k2
 rcases Nat.lt_trichotomy p'.toNat p.toNat with h | h | h
 ·have hA : Hid (Ahead ⟨p, m⟩ ⟨p', m'⟩ = true) := Lib.hid (by
   have hne : p ≠ p' := fun e => by rw [e] at h; omega
   simp [Ahead, hne, h])
  have hd : decide (p'.toNat < p.toNat) = true := decide_eq_true h
  clear h
  go_wp2_with fail
  go_ret
  exact ⟨by rw [hA.out]; rfl, m2⟩
 ·have hpe : p = p' := UInt64.toNat_inj.1 h.symm
  subst hpe
  clear h
  have hA : Hid (Ahead ⟨p, m⟩ ⟨p, m'⟩ = decide (m.toNat < m'.toNat)) := Lib.hid (by simp [Ahead])
  go_wp2_with fail
  go_ret
  exact ⟨by rw [hA.out]; simp, m2⟩
 ·have hA : Hid (Ahead ⟨p, m⟩ ⟨p', m'⟩ = false) := Lib.hid (by
   have hne : p ≠ p' := fun e => by rw [e] at h; omega
   simp [Ahead, hne]
   omega)
  have hd : decide (p'.toNat < p.toNat) = false := decide_eq_false (by omega)
  have hd2 : (p.toNat == p'.toNat) = false := by rw [beq_eq_false_iff_ne]; omega
  have hd3 : ¬ p.toNat = p'.toNat := by omega
  clear h
  go_wp2_with fail
  go_ret
  exact ⟨by rw [hA.out]; rfl, m2⟩
theorem nlt_of (y x : Nd) : nlt y x = (Ahead y.r x.r || (decide (y.r = x.r) && decide (y.id.toInt < x.id.toInt))) := by
 unfold nlt
 by_cases h : y.r = x.r
 ·rw [if_pos h]
  have : Ahead y.r x.r = false := by rw [h]; simp [Ahead]
  simp [h, this]
  simp [Ahead]
 ·rw [if_neg h]
  simp [h]
theorem rkc_ext (r : Rk) : (rkc r).extract 0 2 = rkc r := rfl
def dqv (x : Dq) : Array Value := #[.int .i64 (x.id : Int), u64v x.n, u64v x.p, .int .i64 (x.pl : Int), .bool x.sent]
def zDq : Array Value := #[.int .i64 0, .int .u64 0, .int .u64 0, .int .i64 0, .bool false]
theorem ldDq (w : World) (b o : Nat) : (Instr.loadAt 86 (.pointer (some ⟨b, o, none⟩))).run Tryz.prog w =
   match w.heap[b]? with
   | some (.cells cs _ _) => if o + 5 ≤ cs.size then .ok (.agg (cs.extract o (o + 5))) w else farL Tryz.prog w 86 b o
   | _ => farL Tryz.prog w 86 b o := load_rule (d := _) Tryz.underlying86 rfl (by kernel_rfl) w b o
theorem stDq (w : World) (b o : Nat) (xs : Array Value) : (Instr.storeAt 86 (.pointer (some ⟨b, o, none⟩)) (.agg xs)).run Tryz.prog w =
   match w.heap[b]? with
   | some (.cells cs U (0, 0)) =>
    if o + 5 ≤ cs.size ∧ xs.size = 5 ∧ xs.all (·.oneCell') = true then .ok () (setBlock w b (.cells (if o = 0 ∧ 5 = cs.size then xs else wr cs o xs.toList) U (0, 0))) else farS Tryz.prog w 86 b o (.agg xs)
   | _ => farS Tryz.prog w 86 b o (.agg xs) := store_rule (by kernel_rfl) w b o xs
theorem wlDq (dst : Option Tmp) (x : Operand) (ty : TypeId) (pos : String) (after : Array Edge) (g : Option (Nat × Bool)) (a : Act) (w : World) (K : Act → World → Prop) (Q : Exit → Act → World → Prop) :
  Oper.wp Tryz.prog { dst := dst, op := .load 86 x, type := ty, pos := pos, after := after, guard := g } a w K Q =
   (match a.eval x with
   | .pointer (some ⟨b, o, none⟩) =>
    (match w.heap[b]? with
    | some (.cells cs _ _) => if o + 5 ≤ cs.size then K (a.put dst (.agg (cs.extract o (o + 5)))) w else farW Tryz.prog { dst := dst, op := .load 86 x, type := ty, pos := pos, after := after, guard := g } a w K Q
    | _ => farW Tryz.prog { dst := dst, op := .load 86 x, type := ty, pos := pos, after := after, guard := g } a w K Q)
   | _ => farW Tryz.prog { dst := dst, op := .load 86 x, type := ty, pos := pos, after := after, guard := g } a w K Q) := wp_load_rule (d := _) Tryz.underlying86 rfl (by kernel_rfl) dst x ty pos after g a w K Q
theorem alDq (w : World) : (Instr.alloc 86 true (.tuple #[])).run Tryz.prog w = .ok (.pointer (some ⟨w.heap.size, 0, none⟩)) (w.alloc (.cells zDq 86)) :=
 run_alloc_row (z := .agg zDq) (fun w => by kernel_rfl) w
theorem dqv_size (x : Dq) : (dqv x).size = 5 := rfl
theorem dqv_all (x : Dq) : (dqv x).extract 0 5 = dqv x := rfl
theorem dqv_one (x : Dq) : (dqv x).all (·.oneCell') 0 5 = true := all_of (dqv_size x) (by simp [dqv, Value.oneCell'])
theorem dqv_one' (x : Dq) : (dqv x).all (·.oneCell') = true := by simp [dqv, Value.oneCell']
theorem zDq_size : zDq.size = 5 := rfl
theorem dqv_0 (x : Dq) : (dqv x)[0]? = some (.int .i64 (x.id : Int)) := rfl
theorem dqv_1 (x : Dq) : (dqv x)[1]? = some (u64v x.n) := rfl
theorem dqv_2 (x : Dq) : (dqv x)[2]? = some (u64v x.p) := rfl
theorem dqv_3 (x : Dq) : (dqv x)[3]? = some (.int .i64 (x.pl : Int)) := rfl
theorem dqv_4 (x : Dq) : (dqv x)[4]? = some (.bool x.sent) := rfl
theorem dqT : ElT Tryz.prog 67 86 dqv 5 40 where
 u := Tryz.underlying67
 info := by
  obtain ⟨i0, hi, hz0, hz1, hz2⟩ := info_parts (show (Tryz.prog.info? 86).map (fun i => (i.zero, i.size, i.bytes)) = some (some (.agg zDq), 5, 40) by kernel_rfl)
  exact ⟨i0, _, hi, hz0, hz1, hz2, rfl⟩
 pos := by omega
 size x := rfl
 one x u hu := by
  simp [dqv] at hu
  rcases hu with rfl | rfl | rfl | rfl | rfl <;> rfl
theorem dq_part {C : Array Value} {o : Nat} {x : Dq} (h : C.extract o (o + 5) = dqv x) : C[o]? = some (.int .i64 (x.id : Int)) ∧ C[o + 1]? = some (u64v x.n) ∧ C[o + 2]? = some (u64v x.p) ∧ C[o + 3]? = some (.int .i64 (x.pl : Int)) ∧ C[o + 4]? = some (.bool x.sent) :=
 ⟨by simpa using cellC h (j := 0) (v := .int .i64 (x.id : Int)) rfl, cellC h rfl, cellC h rfl, cellC h rfl, cellC h rfl⟩
def RQ (r n : Nat) (L : List Dq) (T : Nat → Prop) (w : World) : Prop := ∃ v, w.heap[r]? = some (.cells #[.int .i64 (n : Int), v] 69 (0, 0)) ∧ SlOwn dqv 5 86 w 0 v L ∧ T r ∧ ∀ g, v.ownBlock = some g → T g
theorem RQ.good (r n : Nat) (L : List Dq) : Good (RQ r n L) where
 cl := by
  rintro T w w' ⟨v, k, hO, hp, hg⟩ hm
  exact ⟨v, hm.at k (fun h => h hp), hO.mod hm (fun g hv h => h (hg g hv)), hp, hg⟩
 gr := by
  rintro T T' w hT ⟨v, k, hO, hp, hg⟩
  exact ⟨v, k, hO, hT _ hp, fun g hv => hT _ (hg g hv)⟩
theorem RQ.mod0 {r n : Nat} {L : List Dq} {T : Nat → Prop} {w w' : World} (h : RQ r n L T w) (hm : Mod (fun _ => False) w w') : RQ r n L T w' := (RQ.good r n L).cl T w w' h (hm.mono (fun _ _ e => e.elim))
theorem RQ.sl {w : World} {r n : Nat} {L : List Dq} {T : Nat → Prop} (h : RQ r n L T w) : ∃ a c, w.heap[r]? = some (.cells #[.int .i64 (n : Int), .slice a L.length c] 69 (0, 0)) ∧ SlAt dqv 5 w a L := by
 obtain ⟨v, k, hO, _⟩ := h
 obtain ⟨a, c, rfl, hs, _⟩ := hO.at dqT
 exact ⟨a, c, k, hs⟩
attribute [local go_sem ↓] wlDq ldDq stDq
attribute [local go_sem] dqv_size dqv_all dqv_one dqv_one' zDq_size zRk_sz rkc_ext dqv_0 dqv_1 dqv_2 dqv_3 dqv_4
theorem bldB (n : Int) (w : World) : (Instr.build 69 #[(0, .int .i64 n)]).run Tryz.prog w = .ok (.agg #[.int .i64 n, .slice none 0 0]) w := by kernel_rfl
theorem qnewN_c (w : World) {n : Int} (hn : n < 1 ∨ 4096 < n) : Calls Tryz.prog 5 #[.int .i64 n] w fun e w' => e = .returned (.tuple #[.pointer none, .int .i64 1]) ∧ w' = w := by
 go_enter Tryz.func5, Tryz.ntmps5
 by_cases h1 : n < 1
 ·have hd := decide_eq_true h1
  go_wp2_with fail
  exact bodyPost_ret (results_tmp2 rfl _ _ _) rfl ⟨rfl, rfl⟩
 ·have h2 : 4096 < n := hn.resolve_left h1
  have hd := decide_eq_false h1
  have hd2 := decide_eq_true h2
  go_wp2_with fail
  exact bodyPost_ret (results_tmp2 rfl _ _ _) rfl ⟨rfl, rfl⟩
theorem qnewY_c (w : World) {n : Nat} (h1 : 1 ≤ n) (h2 : n ≤ 4096) : Calls Tryz.prog 5 #[.int .i64 (n : Int)] w fun e w' => ∃ r, e = .returned (.tuple #[ptrV r, .int .i64 0]) ∧ RQ r n [] (fun i => i = r) w' ∧ Mod (fun _ => False) w w' ∧ w.heap.size ≤ r := by
 have hb := bldB (n : Int)
 have hd := decide_eq_false (show ¬ (n : Int) < 1 by omega)
 have hd2 := decide_eq_false (show ¬ (4096 : Int) < (n : Int) by omega)
 have hd3 := decide_eq_false (show ¬ 4096 < n by omega)
 have hd4 := decide_eq_false (show ¬ n < 1 by omega)
 go_enter Tryz.func5, Tryz.ntmps5
 go_upto_region 3 with fail
 refine wp_pass0 (C := fun _ _ _ => False) (κ := fun i => [0, 0, 3, 0, 0].getD i 0) [0, 1, 2, 3, 4] (by kernel_rfl) (by kernel_rfl) (fun _ _ d _ _ h => by cases d <;> first | exact h | exact absurd h (hP _ _ _)) ?_
 (refine TD.val0 (v := ?v1) (by simp only [zK]; rfl) rfl (by rfl) (fun w1 => ?y1) ?n1; (case y1 => go_simp; try with_reducible rfl); try simp only [Act.put, zL])
 (refine TD.build (v := ?v2) (ps := ?p2) (by simp only [zK]; rfl) rfl (by rfl) rfl ?hx2 (fun w1 => ?y2) ?n2; (case hx2 => (simp only [List.map_toArray, List.map_cons, List.map_nil, Act.eval, zM]; (try rfl))); (case y2 => (rw [hb]; (try with_reducible rfl))); try simp only [Act.put, zL])
 (refine TD.box (v := ?v3) (by simp only [zK]; rfl) rfl (by rfl) rfl rfl ?hx3 (fun p12 hp12 => ?n3); (case hx3 => simp only [Act.eval, zM]; try rfl); try simp only [Act.put, zL])
 (refine TD.val0 (v := ?v4) (by simp only [zK]; rfl) rfl (by rfl) (fun w1 => ?y4) ?n4; (case y4 => go_simp; try with_reducible rfl); try simp only [Act.put, zL])
 (refine TD.val0 (v := ?v5) (by simp only [zK]; rfl) rfl (by rfl) (fun w1 => ?y5) ?n5; (case y5 => go_simp; try with_reducible rfl); try simp only [Act.put, zL])
 refine TD.nil (fun w3 hr => ?_)
 have kp12 := hr.box p12 _ (by first | exact Bx.set_same _ _ _ | (simp only [Bx.set_same]; rfl)); dsimp only [Value.cells] at kp12; obtain ⟨gp12, kp12⟩ := kp12
 have m3 := hr.mod
 clear hr
 go_wp2_with fail
 exact bodyPost_ret (results_tmp2 rfl _ _ _) rfl ⟨p12, rfl, ⟨_, kp12, SlOwn.nil _ _, rfl, fun g hg => by cases hg⟩, m3, gp12⟩
set_option maxHeartbeats 1600000 in
theorem qahead_c (a b : Dq) (ha : a.id ≤ 4096) (hb : b.id ≤ 4096) (w : World) : Calls Tryz.prog 59 #[.agg (dqv a), .agg (dqv b)] w fun e w' => e = .returned (.bool (nlt a.nd b.nd)) ∧ Mod (fun _ => False) w w' := by
 have hb1 : ∀ w, (Instr.build 109 #[(0, u64v a.p), (1, u64v a.n)]).run Tryz.prog w = .ok (.agg (rkc a.nd.r)) w := fun w => by kernel_rfl
 have hb2 : ∀ w, (Instr.build 109 #[(0, u64v b.p), (1, u64v b.n)]).run Tryz.prog w = .ok (.agg (rkc b.nd.r)) w := fun w => by kernel_rfl
 have hN := nlt_of a.nd b.nd
 have hia : a.nd.id.toInt = (a.id : Int) := idn_toInt (by omega)
 have hib : b.nd.id.toInt = (b.id : Int) := idn_toInt (by omega)
 rw [hia, hib] at hN
 have HN := Lib.hid hN
 clear hN hia hib ha hb
 go_enter Tryz.func59, Tryz.ntmps59
 go_upto_region 0 with fail
 refine wp_pass0 (C := fun _ _ _ => False) (κ := fun i => [3, 3, 0].getD i 0) [0, 1, 2] (by kernel_rfl) (by kernel_rfl) (fun _ _ d _ _ h => by cases d <;> first | exact h | exact absurd h (hP _ _ _)) ?_
 (refine TD.box (v := ?v6) (by simp only [zK]; rfl) rfl (by rfl) rfl rfl ?hx6 (fun p2 hp2 => ?n6); (case hx6 => simp only [Act.eval, zM]; try rfl); try simp only [Act.put, zL])
 (refine TD.box (v := ?v7) (by simp only [zK]; rfl) rfl (by rfl) rfl rfl ?hx7 (fun p3 hp3 => ?n7); (case hx7 => simp only [Act.eval, zM]; try rfl); try simp only [Act.put, zL])
 obtain ⟨ne_p3_p2, hp3⟩ := Bx.set_none hp3
 (refine TD.val0 (v := ?v8) (by simp only [zK]; rfl) rfl (by rfl) (fun w1 => ?y8) ?n8; (case y8 => go_simp; try with_reducible rfl); try simp only [Act.put, zL])
 refine TD.nil (fun w1 hr => ?_)
 have kp2 := hr.box p2 _ (by first | exact Bx.set_same _ _ _ | (simp only [Bx.set_ne _ (Ne.symm ne_p3_p2), Bx.set_ne _ ne_p3_p2, Bx.set_same]; rfl)); dsimp only [Value.cells] at kp2; obtain ⟨gp2, kp2⟩ := kp2
 have kp3 := hr.box p3 _ (by first | exact Bx.set_same _ _ _ | (simp only [Bx.set_ne _ (Ne.symm ne_p3_p2), Bx.set_ne _ ne_p3_p2, Bx.set_same]; rfl)); dsimp only [Value.cells] at kp3; obtain ⟨gp3, kp3⟩ := kp3
 have m1 := hr.mod
 clear hr
 go_upto_region 1 with fail
 have Lkp2 := lt_size kp2
 have Lkp3 := lt_size kp3
 refine wp_pass0 (C := fun _ _ _ => False) (κ := fun i => [0, 1, 0, 1, 0, 3, 4].getD i 0) [0, 1, 2, 3, 4, 5, 6] (by kernel_rfl) (by kernel_rfl) (fun _ _ d _ _ h => by cases d <;> first | exact h | exact absurd h (hP _ _ _)) ?_
 (refine TD.val0 (v := ?v9) (by simp only [zK]; rfl) rfl (by rfl) (fun w1 => ?y9) ?n9; (case y9 => go_simp; try with_reducible rfl); try simp only [Act.put, zL])
 (refine TD.load (v := ?v10) (p := ?p10) (Mod.refl _ _) (by simp only [zK]; rfl) rfl (by rfl) rfl ?hx10 (fun wq hSq => ?y10) ?n10; (case hx10 => simp only [Act.eval, zM]; try rfl); (case y10 => (have kp2q := hSq.at kp2 (fun h => h); have kp3q := hSq.at kp3 (fun h => h); go_simp; (try with_reducible rfl))); try simp only [Act.put, zL])
 (refine TD.val0 (v := ?v11) (by simp only [zK]; rfl) rfl (by rfl) (fun w1 => ?y11) ?n11; (case y11 => go_simp; try with_reducible rfl); try simp only [Act.put, zL])
 (refine TD.load (v := ?v12) (p := ?p12) (Mod.refl _ _) (by simp only [zK]; rfl) rfl (by rfl) rfl ?hx12 (fun wq hSq => ?y12) ?n12; (case hx12 => simp only [Act.eval, zM]; try rfl); (case y12 => (have kp2q := hSq.at kp2 (fun h => h); have kp3q := hSq.at kp3 (fun h => h); go_simp; (try with_reducible rfl))); try simp only [Act.put, zL])
 (refine TD.build (v := ?v13) (ps := ?p13) (by simp only [zK]; rfl) rfl (by rfl) rfl ?hx13 (fun w1 => ?y13) ?n13; (case hx13 => (simp only [List.map_toArray, List.map_cons, List.map_nil, Act.eval, zM]; (try rfl))); (case y13 => (rw [hb1]; (try with_reducible rfl))); try simp only [Act.put, zL])
 (refine TD.allocB (by simp only [zK]; rfl) rfl (by rfl) rfl rfl alRk (fun p5 hp5 => ?n14); try simp only [Act.put, zL])
 (refine TD.storeB (d := ?d15) (T := ?T15) (y := ?y15) (p := ?p15) (b := ?b15) (v := ?v15) (by simp only [zK]; rfl) rfl (by rfl) ?hd15 ?hop15 ?hev15 ?hx15 ?hb15 ?htag15 (fun w1 hb1 => ?hy15) ?hn15; (case hd15 => rfl); (case hop15 => rfl); (case hev15 => (simp only [Act.eval, zM]; (try rfl))); (case hx15 => simp only [Act.eval, zM]; try rfl); (case hb15 => first | exact Bx.set_same _ _ _ | (simp only [Bx.set_same]; rfl)); (case hy15 => (go_simp; (try first | with_reducible rfl | (rw [setCell_blk hb1]; rfl)))); try simp only [Act.put, zL])
 refine TD.nil (fun w2 hr => ?_)
 have kp2 := hr.mod.at kp2 (fun h => h)
 have kp3 := hr.mod.at kp3 (fun h => h)
 have kp5 := hr.box p5 _ (by first | exact Bx.set_same _ _ _ | (simp only [Bx.set_same]; rfl)); dsimp only [Value.cells] at kp5; obtain ⟨gp5, kp5⟩ := kp5
 have m2 := m1.then0 hr.mod
 clear hr
 go_upto_region 2 with fail
 have Lkp2 := lt_size kp2
 have Lkp3 := lt_size kp3
 have Lkp5 := lt_size kp5
 refine wp_pass0 (C := fun _ _ _ => False) (κ := fun i => [0, 1, 0, 1, 0, 3, 4].getD i 0) [0, 1, 2, 3, 4, 5, 6] (by kernel_rfl) (by kernel_rfl) (fun _ _ d _ _ h => by cases d <;> first | exact h | exact absurd h (hP _ _ _)) ?_
 (refine TD.val0 (v := ?v16) (by simp only [zK]; rfl) rfl (by rfl) (fun w1 => ?y16) ?n16; (case y16 => go_simp; try with_reducible rfl); try simp only [Act.put, zL])
 (refine TD.load (v := ?v17) (p := ?p17) (Mod.refl _ _) (by simp only [zK]; rfl) rfl (by rfl) rfl ?hx17 (fun wq hSq => ?y17) ?n17; (case hx17 => simp only [Act.eval, zM]; try rfl); (case y17 => (have kp2q := hSq.at kp2 (fun h => h); have kp3q := hSq.at kp3 (fun h => h); have kp5q := hSq.at kp5 (fun h => h); go_simp; (try with_reducible rfl))); try simp only [Act.put, zL])
 (refine TD.val0 (v := ?v18) (by simp only [zK]; rfl) rfl (by rfl) (fun w1 => ?y18) ?n18; (case y18 => go_simp; try with_reducible rfl); try simp only [Act.put, zL])
 (refine TD.load (v := ?v19) (p := ?p19) (Mod.refl _ _) (by simp only [zK]; rfl) rfl (by rfl) rfl ?hx19 (fun wq hSq => ?y19) ?n19; (case hx19 => simp only [Act.eval, zM]; try rfl); (case y19 => (have kp2q := hSq.at kp2 (fun h => h); have kp3q := hSq.at kp3 (fun h => h); have kp5q := hSq.at kp5 (fun h => h); go_simp; (try with_reducible rfl))); try simp only [Act.put, zL])
 (refine TD.build (v := ?v20) (ps := ?p20) (by simp only [zK]; rfl) rfl (by rfl) rfl ?hx20 (fun w1 => ?y20) ?n20; (case hx20 => (simp only [List.map_toArray, List.map_cons, List.map_nil, Act.eval, zM]; (try rfl))); (case y20 => (rw [hb2]; (try with_reducible rfl))); try simp only [Act.put, zL])
 (refine TD.allocB (by simp only [zK]; rfl) rfl (by rfl) rfl rfl alRk (fun p6 hp6 => ?n21); try simp only [Act.put, zL])
 (refine TD.storeB (d := ?d22) (T := ?T22) (y := ?y22) (p := ?p22) (b := ?b22) (v := ?v22) (by simp only [zK]; rfl) rfl (by rfl) ?hd22 ?hop22 ?hev22 ?hx22 ?hb22 ?htag22 (fun w1 hb1 => ?hy22) ?hn22; (case hd22 => rfl); (case hop22 => rfl); (case hev22 => (simp only [Act.eval, zM]; (try rfl))); (case hx22 => simp only [Act.eval, zM]; try rfl); (case hb22 => first | exact Bx.set_same _ _ _ | (simp only [Bx.set_same]; rfl)); (case hy22 => (go_simp; (try first | with_reducible rfl | (rw [setCell_blk hb1]; rfl)))); try simp only [Act.put, zL])
 refine TD.nil (fun w3 hr => ?_)
 have kp2 := hr.mod.at kp2 (fun h => h)
 have kp3 := hr.mod.at kp3 (fun h => h)
 have kp5 := hr.mod.at kp5 (fun h => h)
 have kp6 := hr.box p6 _ (by first | exact Bx.set_same _ _ _ | (simp only [Bx.set_same]; rfl)); dsimp only [Value.cells] at kp6; obtain ⟨gp6, kp6⟩ := kp6
 have m3 := m2.then0 hr.mod
 clear hr hb1 hb2
 go_upto_region 3 with fail
 cases hA : Ahead a.nd.r b.nd.r with
 | true =>
  have HA := Lib.hid hA
  clear hA
  have Lkp2 := lt_size kp2
  have Lkp3 := lt_size kp3
  have Lkp5 := lt_size kp5
  have Lkp6 := lt_size kp6
  refine wp_pass0 (C := fun _ _ v => v = .bool true) (κ := fun i => [1, 1, 2, 0, 0, 0, 0, 0, 0, 0, 0, 0, 0, 0, 0, 0].getD i 0) [0, 1, 2, 3, 4, 5, 6, 7, 8, 9, 10, 11, 12, 13, 14, 15] (by kernel_rfl) (by kernel_rfl) (fun _ _ d _ _ h => by cases d <;> first | exact h | exact absurd h (hP _ _ _)) ?_
  (refine TD.load (v := ?v23) (p := ?p23) (Mod.refl _ _) (by simp only [zK]; rfl) rfl (by rfl) rfl ?hx23 (fun wq hSq => ?y23) ?n23; (case hx23 => simp only [Act.eval, zM]; try rfl); (case y23 => (have kp2q := hSq.at kp2 (fun h => h); have kp3q := hSq.at kp3 (fun h => h); have kp5q := hSq.at kp5 (fun h => h); have kp6q := hSq.at kp6 (fun h => h); go_simp; (try with_reducible rfl))); try simp only [Act.put, zL])
  (refine TD.load (v := ?v24) (p := ?p24) (Mod.refl _ _) (by simp only [zK]; rfl) rfl (by rfl) rfl ?hx24 (fun wq hSq => ?y24) ?n24; (case hx24 => simp only [Act.eval, zM]; try rfl); (case y24 => (have kp2q := hSq.at kp2 (fun h => h); have kp3q := hSq.at kp3 (fun h => h); have kp5q := hSq.at kp5 (fun h => h); have kp6q := hSq.at kp6 (fun h => h); go_simp; (try with_reducible rfl))); try simp only [Act.put, zL])
  (refine TD.call (f := ?f25) (args := ?r25) (Mod.refl _ _) (by simp only [zK]; rfl) rfl (by rfl) (fun w1 => ?y25) ?hsp25 ?n25; (case y25 => (go_simp; (first | with_reducible rfl | (constructor <;> with_reducible rfl)))); (case hsp25 => (intro wq hSq; have kp2q := hSq.at kp2 (fun h => h); have kp3q := hSq.at kp3 (fun h => h); have kp5q := hSq.at kp5 (fun h => h); have kp6q := hSq.at kp6 (fun h => h); exact (rAhead_c a.nd.r b.nd.r wq).mono (fun e w' h => ⟨_, h.1, by rw [HA.out], h.2⟩))); rintro _ rfl; try simp only [Act.put, zL])
  (refine TD.val0 (v := ?v26) (by simp only [zK]; rfl) rfl (by rfl) (fun w1 => ?y26) ?n26; (case y26 => go_simp; try with_reducible rfl); try simp only [Act.put, zL])
  (refine TD.pass (by simp only [zK]; rfl) rfl (by rfl) ?n27; try simp only [Act.put, zL])
  (refine TD.pass (by simp only [zK]; rfl) rfl (by rfl) ?n28; try simp only [Act.put, zL])
  (refine TD.pass (by simp only [zK]; rfl) rfl (by rfl) ?n29; try simp only [Act.put, zL])
  (refine TD.pass (by simp only [zK]; rfl) rfl (by rfl) ?n30; try simp only [Act.put, zL])
  (refine TD.pass (by simp only [zK]; rfl) rfl (by rfl) ?n31; try simp only [Act.put, zL])
  (refine TD.pass (by simp only [zK]; rfl) rfl (by rfl) ?n32; try simp only [Act.put, zL])
  (refine TD.pass (by simp only [zK]; rfl) rfl (by rfl) ?n33; try simp only [Act.put, zL])
  (refine TD.pass (by simp only [zK]; rfl) rfl (by rfl) ?n34; try simp only [Act.put, zL])
  (refine TD.pass (by simp only [zK]; rfl) rfl (by rfl) ?n35; try simp only [Act.put, zL])
  (refine TD.pass (by simp only [zK]; rfl) rfl (by rfl) ?n36; try simp only [Act.put, zL])
  (refine TD.val0 (v := ?v37) (by simp only [zK]; rfl) rfl (by rfl) (fun w1 => ?y37) ?n37; (case y37 => go_simp; try with_reducible rfl); try simp only [Act.put, zL])
  (refine TD.val0 (v := ?v38) (by simp only [zK]; rfl) rfl (by rfl) (fun w1 => ?y38) ?n38; (case y38 => go_simp; try with_reducible rfl); try simp only [Act.put, zL])
  refine TD.nil (fun w4 hr => ?_)
  have kp2 := hr.mod.at kp2 (fun h => h)
  have kp3 := hr.mod.at kp3 (fun h => h)
  have kp5 := hr.mod.at kp5 (fun h => h)
  have kp6 := hr.mod.at kp6 (fun h => h)
  have m4 := m3.then0 hr.mod
  clear hr
  go_wp2_with fail
  go_ret
  exact ⟨by rw [HN.out, HA.out]; rfl, m4⟩
 | false =>
  have HA := Lib.hid hA
  clear hA
  by_cases hq : a.nd.r = b.nd.r
  ·have hde := decide_eq_true hq
   have HQ := Lib.hid hde
   clear hq
   obtain ⟨z, hz⟩ : ∃ z, decide ((a.id : Int) < (b.id : Int)) = z := ⟨_, rfl⟩
   have hz2 : decide (a.id < b.id) = z := by rw [← hz]; exact decide_eq_decide.2 (by omega)
   have HZ := Lib.hid hz
   have Lkp2 := lt_size kp2
   have Lkp3 := lt_size kp3
   have Lkp5 := lt_size kp5
   have Lkp6 := lt_size kp6
   refine wp_pass0 (C := fun _ _ v => v = .bool false) (κ := fun i => [1, 1, 2, 0, 1, 1, 0, 0, 0, 1, 0, 1, 0, 0, 0, 0].getD i 0) [0, 1, 2, 3, 4, 5, 6, 7, 8, 9, 10, 11, 12, 13, 14, 15] (by kernel_rfl) (by kernel_rfl) (fun _ _ d _ _ h => by cases d <;> first | exact h | exact absurd h (hP _ _ _)) ?_
   (refine TD.load (v := ?v39) (p := ?p39) (Mod.refl _ _) (by simp only [zK]; rfl) rfl (by rfl) rfl ?hx39 (fun wq hSq => ?y39) ?n39; (case hx39 => simp only [Act.eval, zM]; try rfl); (case y39 => (have kp2q := hSq.at kp2 (fun h => h); have kp3q := hSq.at kp3 (fun h => h); have kp5q := hSq.at kp5 (fun h => h); have kp6q := hSq.at kp6 (fun h => h); go_simp; (try with_reducible rfl))); try simp only [Act.put, zL])
   (refine TD.load (v := ?v40) (p := ?p40) (Mod.refl _ _) (by simp only [zK]; rfl) rfl (by rfl) rfl ?hx40 (fun wq hSq => ?y40) ?n40; (case hx40 => simp only [Act.eval, zM]; try rfl); (case y40 => (have kp2q := hSq.at kp2 (fun h => h); have kp3q := hSq.at kp3 (fun h => h); have kp5q := hSq.at kp5 (fun h => h); have kp6q := hSq.at kp6 (fun h => h); go_simp; (try with_reducible rfl))); try simp only [Act.put, zL])
   (refine TD.call (f := ?f41) (args := ?r41) (Mod.refl _ _) (by simp only [zK]; rfl) rfl (by rfl) (fun w1 => ?y41) ?hsp41 ?n41; (case y41 => (go_simp; (first | with_reducible rfl | (constructor <;> with_reducible rfl)))); (case hsp41 => (intro wq hSq; have kp2q := hSq.at kp2 (fun h => h); have kp3q := hSq.at kp3 (fun h => h); have kp5q := hSq.at kp5 (fun h => h); have kp6q := hSq.at kp6 (fun h => h); exact (rAhead_c a.nd.r b.nd.r wq).mono (fun e w' h => ⟨_, h.1, by rw [HA.out], h.2⟩))); rintro _ rfl; try simp only [Act.put, zL])
   (refine TD.val0 (v := ?v42) (by simp only [zK]; rfl) rfl (by rfl) (fun w1 => ?y42) ?n42; (case y42 => go_simp; try with_reducible rfl); try simp only [Act.put, zL])
   (refine TD.load (v := ?v43) (p := ?p43) (Mod.refl _ _) (by simp only [zK]; rfl) rfl (by rfl) rfl ?hx43 (fun wq hSq => ?y43) ?n43; (case hx43 => simp only [Act.eval, zM]; try rfl); (case y43 => (have kp2q := hSq.at kp2 (fun h => h); have kp3q := hSq.at kp3 (fun h => h); have kp5q := hSq.at kp5 (fun h => h); have kp6q := hSq.at kp6 (fun h => h); go_simp; (try with_reducible rfl))); try simp only [Act.put, zL])
   (refine TD.load (v := ?v44) (p := ?p44) (Mod.refl _ _) (by simp only [zK]; rfl) rfl (by rfl) rfl ?hx44 (fun wq hSq => ?y44) ?n44; (case hx44 => simp only [Act.eval, zM]; try rfl); (case y44 => (have kp2q := hSq.at kp2 (fun h => h); have kp3q := hSq.at kp3 (fun h => h); have kp5q := hSq.at kp5 (fun h => h); have kp6q := hSq.at kp6 (fun h => h); go_simp; (try with_reducible rfl))); try simp only [Act.put, zL])
   (refine TD.val0 (v := ?v45) (by simp only [zK]; rfl) rfl (by rfl) (fun w1 => ?y45) ?n45; (case y45 => go_simp; try with_reducible rfl); try simp only [Act.put, zL])
   (refine TD.val0 (v := ?v46) (by simp only [zK]; rfl) rfl (by rfl) (fun w1 => ?y46) ?n46; (case y46 => go_simp; try with_reducible rfl); try simp only [Act.put, zL])
   (refine TD.val0 (v := ?v47) (by simp only [zK]; rfl) rfl (by rfl) (fun w1 => ?y47) ?n47; (case y47 => go_simp; try with_reducible rfl); try simp only [Act.put, zL])
   (refine TD.load (v := ?v48) (p := ?p48) (Mod.refl _ _) (by simp only [zK]; rfl) rfl (by rfl) rfl ?hx48 (fun wq hSq => ?y48) ?n48; (case hx48 => simp only [Act.eval, zM]; try rfl); (case y48 => (have kp2q := hSq.at kp2 (fun h => h); have kp3q := hSq.at kp3 (fun h => h); have kp5q := hSq.at kp5 (fun h => h); have kp6q := hSq.at kp6 (fun h => h); go_simp; (try with_reducible rfl))); try simp only [Act.put, zL])
   (refine TD.val0 (v := ?v49) (by simp only [zK]; rfl) rfl (by rfl) (fun w1 => ?y49) ?n49; (case y49 => go_simp; try with_reducible rfl); try simp only [Act.put, zL])
   (refine TD.load (v := ?v50) (p := ?p50) (Mod.refl _ _) (by simp only [zK]; rfl) rfl (by rfl) rfl ?hx50 (fun wq hSq => ?y50) ?n50; (case hx50 => simp only [Act.eval, zM]; try rfl); (case y50 => (have kp2q := hSq.at kp2 (fun h => h); have kp3q := hSq.at kp3 (fun h => h); have kp5q := hSq.at kp5 (fun h => h); have kp6q := hSq.at kp6 (fun h => h); go_simp; (try with_reducible rfl))); try simp only [Act.put, zL])
   (refine TD.val0 (v := ?v51) (by simp only [zK]; rfl) rfl (by rfl) (fun w1 => ?y51) ?n51; (case y51 => go_simp; try with_reducible rfl); try simp only [Act.put, zL])
   (refine TD.val0 (v := ?v52) (by simp only [zK]; rfl) rfl (by rfl) (fun w1 => ?y52) ?n52; (case y52 => go_simp; try with_reducible rfl); try simp only [Act.put, zL])
   (refine TD.val0 (v := ?v53) (by simp only [zK]; rfl) rfl (by rfl) (fun w1 => ?y53) ?n53; (case y53 => go_simp; try with_reducible rfl); try simp only [Act.put, zL])
   (refine TD.val0 (v := ?v54) (by simp only [zK]; rfl) rfl (by rfl) (fun w1 => ?y54) ?n54; (case y54 => go_simp; try with_reducible rfl); try simp only [Act.put, zL])
   refine TD.nil (fun w4 hr => ?_)
   have kp2 := hr.mod.at kp2 (fun h => h)
   have kp3 := hr.mod.at kp3 (fun h => h)
   have kp5 := hr.mod.at kp5 (fun h => h)
   have kp6 := hr.mod.at kp6 (fun h => h)
   have m4 := m3.then0 hr.mod
   clear hr
   go_wp2_with fail
   go_ret
   exact ⟨by rw [HN.out, HA.out, HQ.out, HZ.out]; rfl, m4⟩
  ·have hde := decide_eq_false hq
   have HQ := Lib.hid hde
   clear hq
   have Lkp2 := lt_size kp2
   have Lkp3 := lt_size kp3
   have Lkp5 := lt_size kp5
   have Lkp6 := lt_size kp6
   refine wp_pass0 (C := fun _ _ v => v = .bool false) (κ := fun i => [1, 1, 2, 0, 1, 1, 0, 0, 0, 0, 0, 0, 0, 0, 0, 0].getD i 0) [0, 1, 2, 3, 4, 5, 6, 7, 8, 9, 10, 11, 12, 13, 14, 15] (by kernel_rfl) (by kernel_rfl) (fun _ _ d _ _ h => by cases d <;> first | exact h | exact absurd h (hP _ _ _)) ?_
   (refine TD.load (v := ?v55) (p := ?p55) (Mod.refl _ _) (by simp only [zK]; rfl) rfl (by rfl) rfl ?hx55 (fun wq hSq => ?y55) ?n55; (case hx55 => simp only [Act.eval, zM]; try rfl); (case y55 => (have kp2q := hSq.at kp2 (fun h => h); have kp3q := hSq.at kp3 (fun h => h); have kp5q := hSq.at kp5 (fun h => h); have kp6q := hSq.at kp6 (fun h => h); go_simp; (try with_reducible rfl))); try simp only [Act.put, zL])
   (refine TD.load (v := ?v56) (p := ?p56) (Mod.refl _ _) (by simp only [zK]; rfl) rfl (by rfl) rfl ?hx56 (fun wq hSq => ?y56) ?n56; (case hx56 => simp only [Act.eval, zM]; try rfl); (case y56 => (have kp2q := hSq.at kp2 (fun h => h); have kp3q := hSq.at kp3 (fun h => h); have kp5q := hSq.at kp5 (fun h => h); have kp6q := hSq.at kp6 (fun h => h); go_simp; (try with_reducible rfl))); try simp only [Act.put, zL])
   (refine TD.call (f := ?f57) (args := ?r57) (Mod.refl _ _) (by simp only [zK]; rfl) rfl (by rfl) (fun w1 => ?y57) ?hsp57 ?n57; (case y57 => (go_simp; (first | with_reducible rfl | (constructor <;> with_reducible rfl)))); (case hsp57 => (intro wq hSq; have kp2q := hSq.at kp2 (fun h => h); have kp3q := hSq.at kp3 (fun h => h); have kp5q := hSq.at kp5 (fun h => h); have kp6q := hSq.at kp6 (fun h => h); exact (rAhead_c a.nd.r b.nd.r wq).mono (fun e w' h => ⟨_, h.1, by rw [HA.out], h.2⟩))); rintro _ rfl; try simp only [Act.put, zL])
   (refine TD.val0 (v := ?v58) (by simp only [zK]; rfl) rfl (by rfl) (fun w1 => ?y58) ?n58; (case y58 => go_simp; try with_reducible rfl); try simp only [Act.put, zL])
   (refine TD.load (v := ?v59) (p := ?p59) (Mod.refl _ _) (by simp only [zK]; rfl) rfl (by rfl) rfl ?hx59 (fun wq hSq => ?y59) ?n59; (case hx59 => simp only [Act.eval, zM]; try rfl); (case y59 => (have kp2q := hSq.at kp2 (fun h => h); have kp3q := hSq.at kp3 (fun h => h); have kp5q := hSq.at kp5 (fun h => h); have kp6q := hSq.at kp6 (fun h => h); go_simp; (try with_reducible rfl))); try simp only [Act.put, zL])
   (refine TD.load (v := ?v60) (p := ?p60) (Mod.refl _ _) (by simp only [zK]; rfl) rfl (by rfl) rfl ?hx60 (fun wq hSq => ?y60) ?n60; (case hx60 => simp only [Act.eval, zM]; try rfl); (case y60 => (have kp2q := hSq.at kp2 (fun h => h); have kp3q := hSq.at kp3 (fun h => h); have kp5q := hSq.at kp5 (fun h => h); have kp6q := hSq.at kp6 (fun h => h); go_simp; (try with_reducible rfl))); try simp only [Act.put, zL])
   (refine TD.val0 (v := ?v61) (by simp only [zK]; rfl) rfl (by rfl) (fun w1 => ?y61) ?n61; (case y61 => go_simp; try with_reducible rfl); try simp only [Act.put, zL])
   (refine TD.val0 (v := ?v62) (by simp only [zK]; rfl) rfl (by rfl) (fun w1 => ?y62) ?n62; (case y62 => go_simp; try with_reducible rfl); try simp only [Act.put, zL])
   (refine TD.pass (by simp only [zK]; rfl) rfl (by rfl) ?n63; try simp only [Act.put, zL])
   (refine TD.pass (by simp only [zK]; rfl) rfl (by rfl) ?n64; try simp only [Act.put, zL])
   (refine TD.pass (by simp only [zK]; rfl) rfl (by rfl) ?n65; try simp only [Act.put, zL])
   (refine TD.pass (by simp only [zK]; rfl) rfl (by rfl) ?n66; try simp only [Act.put, zL])
   (refine TD.pass (by simp only [zK]; rfl) rfl (by rfl) ?n67; try simp only [Act.put, zL])
   (refine TD.val0 (v := ?v68) (by simp only [zK]; rfl) rfl (by rfl) (fun w1 => ?y68) ?n68; (case y68 => go_simp; try with_reducible rfl); try simp only [Act.put, zL])
   (refine TD.val0 (v := ?v69) (by simp only [zK]; rfl) rfl (by rfl) (fun w1 => ?y69) ?n69; (case y69 => go_simp; try with_reducible rfl); try simp only [Act.put, zL])
   (refine TD.val0 (v := ?v70) (by simp only [zK]; rfl) rfl (by rfl) (fun w1 => ?y70) ?n70; (case y70 => go_simp; try with_reducible rfl); try simp only [Act.put, zL])
   refine TD.nil (fun w4 hr => ?_)
   have kp2 := hr.mod.at kp2 (fun h => h)
   have kp3 := hr.mod.at kp3 (fun h => h)
   have kp5 := hr.mod.at kp5 (fun h => h)
   have kp6 := hr.mod.at kp6 (fun h => h)
   have m4 := m3.then0 hr.mod
   clear hr
   go_wp2_with fail
   go_ret
   exact ⟨by rw [HN.out, HA.out, HQ.out]; rfl, m4⟩
theorem qat_c {r n : Nat} {L : List Dq} {T : Nat → Prop} {w : World} (h : RQ r n L T w) (id : Int) (hL : L.length ≤ 4096) : Calls Tryz.prog 56 #[ptrV r, .int .i64 id] w fun e w' =>
  ((∃ (i : Nat) (x : Dq), e = .returned (.int .i64 (i : Int)) ∧ L[i]? = some x ∧ (x.id : Int) = id) ∨ (e = .returned (.int .i64 (-1)) ∧ ∀ x ∈ L, (x.id : Int) ≠ id)) ∧ Mod (fun _ => False) w w' := by
 obtain ⟨a, c, kr, hs⟩ := h.sl
 clear h
 go_enter Tryz.func56, Tryz.ntmps56
 go_wp2_with fail
 go_loopw [5] (fun s5 ws => ∃ i : Nat, i ≤ L.length ∧ s5 = .int .i64 (i : Int) ∧ Hid (∀ (j : Nat) (x : Dq), j < i → L[j]? = some x → (x.id : Int) ≠ id) ∧ Mod (fun _ => False) w ws) (fun s5 _ => L.length - (intOf s5).toNat)
 case atStart => exact ⟨0, by omega, rfl, Lib.hid (fun j x hj => by omega), Mod.refl _ _⟩
 case round =>
  obtain ⟨i, hi, rfl, HG, hm⟩ := hrel
  have kr := hm.at0 kr
  by_cases hlt : i < L.length
  ·obtain ⟨x, hx⟩ : ∃ x, L[i]? = some x := ⟨_, List.getElem?_eq_getElem hlt⟩
   obtain ⟨g, o, C, U, fr, rfl, kl, he, hle⟩ := (hs.mod0 hm).block hx
   obtain ⟨e1, _⟩ := dq_part he
   have HX := Lib.hid hx
   clear he hx hs
   by_cases hxk : (x.id : Int) = id
   ·have hde : ((x.id : Int) == id) = true := by rw [hxk]; simp
    have HK := Lib.hid hxk
    clear hxk
    go_wp2_with fail
    go_ret
    exact ⟨.inl ⟨i, x, rfl, HX.out, HK.out⟩, hm⟩
   ·have hde : ((x.id : Int) == id) = false := by
     rw [beq_eq_false_iff_ne]
     exact hxk
    have HK := Lib.hid hxk
    clear hxk
    go_wp2_with fail
    go_roundw
    case rel => exact ⟨i + 1, by omega, by go_num, Lib.hid (fun j y hj hy => by
     by_cases e : j = i
     ·subst e
      rw [HX.out] at hy
      cases hy
      exact HK.out
     ·exact HG.out j y (by omega) hy), hm⟩
    case measure => simp [intOf]; omega
  ·obtain rfl : i = L.length := by omega
   go_wp2_with fail
   go_ret
   refine ⟨.inr ⟨rfl, fun x hx => ?_⟩, hm⟩
   obtain ⟨j, hj⟩ := List.mem_iff_getElem?.1 hx
   exact HG.out j x (List.getElem?_eq_some_iff.1 hj).1 hj
def bestV (o : Option Nat) : Int := o.elim (-1) (fun j => (j : Int))
set_option maxRecDepth 20000 in
set_option maxHeartbeats 3200000 in
theorem qend_c {r n : Nat} {L : List Dq} {T : Nat → Prop} {w : World} (h : RQ r n L T w) (last : Bool) (hL : L.length ≤ 4096) (hid : ∀ x ∈ L, x.id ≤ 4096) (hnd : ∀ (j j' : Nat) (y z : Dq), L[j]? = some y → L[j']? = some z → y.nd = z.nd → j = j') : Calls Tryz.prog 53 #[ptrV r, .bool last] w fun e w' =>
  (∃ o, EndI last L L.length o ∧ e = .returned (.int .i64 (bestV o))) ∧ Mod (fun _ => False) w w' := by
 obtain ⟨a, c, kr, hs⟩ := h.sl
 have HS := Lib.hid (And.intro hs (And.intro hid hnd))
 clear h hs hid hnd
 go_enter Tryz.func53, Tryz.ntmps53
 go_wp2_with fail
 go_loopw [5, 6] (fun s5 s6 ws => ∃ (i : Nat) (o : Option Nat), i ≤ L.length ∧ s6 = .int .i64 (i : Int) ∧ s5 = .int .i64 (bestV o) ∧ Hid (EndI last L i o) ∧ Mod (fun _ => False) w ws) (fun _ s6 _ => L.length - (intOf s6).toNat)
 case atStart => exact ⟨0, none, by omega, rfl, rfl, Lib.hid EndI.zero, Mod.refl _ _⟩
 case round =>
  obtain ⟨i, o, hi, rfl, rfl, HG, hm⟩ := hrel
  have kr := hm.at0 kr
  by_cases hlt : i < L.length
  ·obtain ⟨y, hy⟩ : ∃ y, L[i]? = some y := ⟨_, List.getElem?_eq_getElem hlt⟩
   obtain ⟨g, oo, C, U, fr, rfl, kl, he, hle⟩ := (HS.out.1.mod0 hm).block hy
   obtain ⟨_, _, _, e4, _⟩ := dq_part he
   have HY := Lib.hid hy
   by_cases hp : y.pl = 0
   ·have hde : ((y.pl : Int) == 0) = true := by rw [hp]; rfl
    have hde2 : ((y.pl : Int) != 0) = false := by rw [hp]; rfl
    have HP := Lib.hid hp
    cases o with
    | none =>
     clear hy hp he
     have hbv : bestV none = -1 := rfl
     rw [hbv]
     go_upto_region 6 with fail
     have Lkr := lt_size kr
     have Lkl := lt_size kl
     refine wp_pass (C := fun _ _ _ => False) (κ := fun i => [0, 0, 0, 0, 0, 0, 0, 0, 0, 0, 0, 0, 0, 0, 0, 0, 0, 0, 0, 0, 0].getD i 0) [0, 1, 2, 3, 4, 5, 6, 7, 8, 9, 10, 11, 12, 13, 14, 15, 16, 17, 18, 19, 20] (by kernel_rfl) (by kernel_rfl) (fun _ _ d _ _ h => by cases d <;> first | exact h | exact absurd h (hP _ _ _)) ?_
     (refine TD.val0 (v := ?v71) (by simp only [zK]; rfl) rfl (by rfl) (fun w1 => ?y71) ?n71; (case y71 => go_simp; try with_reducible rfl); try simp only [Act.put, zL])
     (refine TD.val0 (v := ?v72) (by simp only [zK]; rfl) rfl (by rfl) (fun w1 => ?y72) ?n72; (case y72 => go_simp; try with_reducible rfl); try simp only [Act.put, zL])
     (refine TD.val0 (v := ?v73) (by simp only [zK]; rfl) rfl (by rfl) (fun w1 => ?y73) ?n73; (case y73 => go_simp; try with_reducible rfl); try simp only [Act.put, zL])
     (refine TD.pass (by simp only [zK]; rfl) rfl (by rfl) ?n74; try simp only [Act.put, zL])
     (refine TD.pass (by simp only [zK]; rfl) rfl (by rfl) ?n75; try simp only [Act.put, zL])
     (refine TD.pass (by simp only [zK]; rfl) rfl (by rfl) ?n76; try simp only [Act.put, zL])
     (refine TD.pass (by simp only [zK]; rfl) rfl (by rfl) ?n77; try simp only [Act.put, zL])
     (refine TD.pass (by simp only [zK]; rfl) rfl (by rfl) ?n78; try simp only [Act.put, zL])
     (refine TD.pass (by simp only [zK]; rfl) rfl (by rfl) ?n79; try simp only [Act.put, zL])
     (refine TD.pass (by simp only [zK]; rfl) rfl (by rfl) ?n80; try simp only [Act.put, zL])
     (refine TD.pass (by simp only [zK]; rfl) rfl (by rfl) ?n81; try simp only [Act.put, zL])
     (refine TD.pass (by simp only [zK]; rfl) rfl (by rfl) ?n82; try simp only [Act.put, zL])
     (refine TD.pass (by simp only [zK]; rfl) rfl (by rfl) ?n83; try simp only [Act.put, zL])
     (refine TD.pass (by simp only [zK]; rfl) rfl (by rfl) ?n84; try simp only [Act.put, zL])
     (refine TD.pass (by simp only [zK]; rfl) rfl (by rfl) ?n85; try simp only [Act.put, zL])
     (refine TD.pass (by simp only [zK]; rfl) rfl (by rfl) ?n86; try simp only [Act.put, zL])
     (refine TD.pass (by simp only [zK]; rfl) rfl (by rfl) ?n87; try simp only [Act.put, zL])
     (refine TD.pass (by simp only [zK]; rfl) rfl (by rfl) ?n88; try simp only [Act.put, zL])
     (refine TD.pass (by simp only [zK]; rfl) rfl (by rfl) ?n89; try simp only [Act.put, zL])
     (refine TD.pass (by simp only [zK]; rfl) rfl (by rfl) ?n90; try simp only [Act.put, zL])
     (refine TD.val0 (v := ?v91) (by simp only [zK]; rfl) rfl (by rfl) (fun w1 => ?y91) ?n91; (case y91 => go_simp; try with_reducible rfl); try simp only [Act.put, zL])
     refine TD.nil (fun w6 hr => ?_)
     have kr := hr.mod.at kr (fun h => h)
     have kl := hr.mod.at kl (fun h => h)
     have mm := hm.then0 hr.mod
     clear hr
     go_wp2_with fail
     go_roundw
     case rel => exact ⟨i + 1, some i, by omega, by go_num, rfl, Lib.hid (EndI.first HG.out HY.out HP.out), mm⟩
     case measure => simp [intOf]; omega
    | some b =>
     obtain ⟨hbi, x, hx, _, _⟩ := HG.out
     obtain ⟨g2, oo2, C2, U2, fr2, ha2, kl2, he2, hle2⟩ := (HS.out.1.mod0 hm).block hx
     cases ha2
     rw [kl] at kl2
     cases kl2
     have hyi := HS.out.2.1 y (List.mem_of_getElem? hy)
     have hxi := HS.out.2.1 x (List.mem_of_getElem? hx)
     have HX := Lib.hid (And.intro hx (And.intro hyi hxi))
     clear hy hp hx hyi hxi
     have hbv : bestV (some b) = (b : Int) := rfl
     rw [hbv]
     have hd0 := decide_eq_false (show ¬ (b : Int) < 0 by omega)
     have hbl : b < L.length := by omega
     obtain ⟨q, hq⟩ : ∃ q, nlt y.nd x.nd = q := ⟨_, rfl⟩
     obtain ⟨z, hz⟩ : ∃ z, (q != last) = z := ⟨_, rfl⟩
     have HQ := Lib.hid (And.intro hq hz)
     have hz2 : (q ^^ last) = z := hz
     have hz3 : (q == last) = !z := by rw [← hz]; cases q <;> cases last <;> decide
     clear hq
     go_upto_region 6 with fail
     have Lkr := lt_size kr
     have Lkl := lt_size kl
     refine wp_pass (C := fun _ _ v => v = .bool q) (κ := fun i => [0, 0, 0, 0, 0, 0, 1, 0, 0, 1, 0, 0, 0, 1, 0, 0, 1, 2, 0, 0, 0].getD i 0) [0, 1, 2, 3, 4, 5, 6, 7, 8, 9, 10, 11, 12, 13, 14, 15, 16, 17, 18, 19, 20] (by kernel_rfl) (by kernel_rfl) (fun _ _ d _ _ h => by cases d <;> first | exact h | exact absurd h (hP _ _ _)) ?_
     (refine TD.val0 (v := ?v92) (by simp only [zK]; rfl) rfl (by rfl) (fun w1 => ?y92) ?n92; (case y92 => go_simp; try with_reducible rfl); try simp only [Act.put, zL])
     (refine TD.val0 (v := ?v93) (by simp only [zK]; rfl) rfl (by rfl) (fun w1 => ?y93) ?n93; (case y93 => go_simp; try with_reducible rfl); try simp only [Act.put, zL])
     (refine TD.val0 (v := ?v94) (by simp only [zK]; rfl) rfl (by rfl) (fun w1 => ?y94) ?n94; (case y94 => go_simp; try with_reducible rfl); try simp only [Act.put, zL])
     (refine TD.val0 (v := ?v95) (by simp only [zK]; rfl) rfl (by rfl) (fun w1 => ?y95) ?n95; (case y95 => go_simp; try with_reducible rfl); try simp only [Act.put, zL])
     (refine TD.val0 (v := ?v96) (by simp only [zK]; rfl) rfl (by rfl) (fun w1 => ?y96) ?n96; (case y96 => go_simp; try with_reducible rfl); try simp only [Act.put, zL])
     (refine TD.val0 (v := ?v97) (by simp only [zK]; rfl) rfl (by rfl) (fun w1 => ?y97) ?n97; (case y97 => go_simp; try with_reducible rfl); try simp only [Act.put, zL])
     (refine TD.load (v := ?v98) (p := ?p98) (Mod.refl _ _) (by simp only [zK]; rfl) rfl (by rfl) rfl ?hx98 (fun wq hSq => ?y98) ?n98; (case hx98 => simp only [Act.eval, zM]; try rfl); (case y98 => (have krq := hSq.at kr (fun h => h); have klq := hSq.at kl (fun h => h); go_simp; (try with_reducible rfl))); try simp only [Act.put, zL])
     (refine TD.val0 (v := ?v99) (by simp only [zK]; rfl) rfl (by rfl) (fun w1 => ?y99) ?n99; (case y99 => go_simp; try with_reducible rfl); try simp only [Act.put, zL])
     (refine TD.val0 (v := ?v100) (by simp only [zK]; rfl) rfl (by rfl) (fun w1 => ?y100) ?n100; (case y100 => go_simp; try with_reducible rfl); try simp only [Act.put, zL])
     (refine TD.load (v := ?v101) (p := ?p101) (Mod.refl _ _) (by simp only [zK]; rfl) rfl (by rfl) rfl ?hx101 (fun wq hSq => ?y101) ?n101; (case hx101 => simp only [Act.eval, zM]; try rfl); (case y101 => (have krq := hSq.at kr (fun h => h); have klq := hSq.at kl (fun h => h); go_simp; (try with_reducible rfl))); try simp only [Act.put, zL])
     (refine TD.val0 (v := ?v102) (by simp only [zK]; rfl) rfl (by rfl) (fun w1 => ?y102) ?n102; (case y102 => go_simp; try with_reducible rfl); try simp only [Act.put, zL])
     (refine TD.val0 (v := ?v103) (by simp only [zK]; rfl) rfl (by rfl) (fun w1 => ?y103) ?n103; (case y103 => go_simp; try with_reducible rfl); try simp only [Act.put, zL])
     (refine TD.val0 (v := ?v104) (by simp only [zK]; rfl) rfl (by rfl) (fun w1 => ?y104) ?n104; (case y104 => go_simp; try with_reducible rfl); try simp only [Act.put, zL])
     (refine TD.load (v := ?v105) (p := ?p105) (Mod.refl _ _) (by simp only [zK]; rfl) rfl (by rfl) rfl ?hx105 (fun wq hSq => ?y105) ?n105; (case hx105 => simp only [Act.eval, zM]; try rfl); (case y105 => (have krq := hSq.at kr (fun h => h); have klq := hSq.at kl (fun h => h); go_simp; (try with_reducible rfl))); try simp only [Act.put, zL])
     (refine TD.val0 (v := ?v106) (by simp only [zK]; rfl) rfl (by rfl) (fun w1 => ?y106) ?n106; (case y106 => go_simp; try with_reducible rfl); try simp only [Act.put, zL])
     (refine TD.val0 (v := ?v107) (by simp only [zK]; rfl) rfl (by rfl) (fun w1 => ?y107) ?n107; (case y107 => go_simp; try with_reducible rfl); try simp only [Act.put, zL])
     (refine TD.load (v := ?v108) (p := ?p108) (Mod.refl _ _) (by simp only [zK]; rfl) rfl (by rfl) rfl ?hx108 (fun wq hSq => ?y108) ?n108; (case hx108 => simp only [Act.eval, zM]; try rfl); (case y108 => (have krq := hSq.at kr (fun h => h); have klq := hSq.at kl (fun h => h); go_simp; (try with_reducible rfl))); try simp only [Act.put, zL])
     (refine TD.call (f := ?f109) (args := ?r109) (Mod.refl _ _) (by simp only [zK]; rfl) rfl (by rfl) (fun w1 => ?y109) ?hsp109 ?n109; (case y109 => (go_simp; (first | with_reducible rfl | (constructor <;> with_reducible rfl)))); (case hsp109 => (intro wq hSq; have krq := hSq.at kr (fun h => h); have klq := hSq.at kl (fun h => h); exact (qahead_c y x HX.out.2.1 HX.out.2.2 wq).mono (fun e w' h => ⟨_, h.1, by rw [HQ.out.1], h.2⟩))); rintro _ rfl; try simp only [Act.put, zL])
     (refine TD.val0 (v := ?v110) (by simp only [zK]; rfl) rfl (by rfl) (fun w1 => ?y110) ?n110; (case y110 => go_simp; try with_reducible rfl); try simp only [Act.put, zL])
     (refine TD.val0 (v := ?v111) (by simp only [zK]; rfl) rfl (by rfl) (fun w1 => ?y111) ?n111; (case y111 => go_simp; try with_reducible rfl); try simp only [Act.put, zL])
     (refine TD.val0 (v := ?v112) (by simp only [zK]; rfl) rfl (by rfl) (fun w1 => ?y112) ?n112; (case y112 => go_simp; try with_reducible rfl); try simp only [Act.put, zL])
     refine TD.nil (fun w6 hr => ?_)
     have kr := hr.mod.at kr (fun h => h)
     have kl := hr.mod.at kl (fun h => h)
     have mm := hm.then0 hr.mod
     have HST : Hid (EndI last L (i + 1) (some (if z then i else b))) := Lib.hid (by
      have h1 := EndI.step HS.out.2.2 HG.out HY.out HP.out HX.out.1
      rw [HQ.out.1, HQ.out.2] at h1
      exact h1)
     clear hr he he2 e4
     cases z with
     | true =>
      go_wp2_with fail
      go_roundw
      case rel => exact ⟨i + 1, some i, by omega, by go_num, rfl, HST, mm⟩
      case measure => simp [intOf]; omega
     | false =>
      go_wp2_with fail
      go_roundw
      case rel => exact ⟨i + 1, some b, by omega, by go_num, rfl, HST, mm⟩
      case measure => simp [intOf]; omega
   ·have hde : ((y.pl : Int) == 0) = false := by rw [beq_eq_false_iff_ne]; omega
    have hde2 : ((y.pl : Int) != 0) = true := by rw [bne_iff_ne]; omega
    have HP := Lib.hid hp
    clear hy hp he
    go_wp2_with fail
    go_roundw
    case rel => exact ⟨i + 1, o, by omega, by go_num, rfl, Lib.hid (EndI.skip HG.out HY.out HP.out), hm⟩
    case measure => simp [intOf]; omega
  ·obtain rfl : i = L.length := by omega
   go_wp2_with fail
   go_ret
   exact ⟨⟨o, HG.out, rfl⟩, hm⟩
end Go.Proofs.YtdeghpmlhcaedaaGreatDoor
