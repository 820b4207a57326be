/- Buffers, the plain law: items by numbers, those that wait. -/
import Derived.Test.YtdeghpmlhcaedaaDoorRy
namespace Go.Proofs.YtdeghpmlhcaedaaDoor
set_option linter.unusedVariables false
set_option linter.unusedSimpArgs false
/-! What is told of a packet: the contents alone. -/
structure InC where
  p : UInt8
  a : List UInt8
  d : List UInt8
structure LoC where
  t : Key
  w : List UInt8
  r : List UInt8
structure RdC where
  b : List UInt8
  sg : List Sg
  v0 : Bool
  h0 : UInt8
  h1 : UInt8
  h2 : UInt8
  ks : List Key
  rc : Key
  ins : List InC
  lks : List LoC
  ro : List Role
  un : UInt64
  pr : UInt64
  bad : Int64
  fee : UInt64
  cost : UInt64
  prio : UInt64
def InR.con (x : InR) : InC := ⟨x.p, x.a.l, x.d.l⟩
def LoR.con (x : LoR) : LoC := ⟨x.t, x.w.l, x.r.l⟩
def RdR.con (x : RdR) : RdC := ⟨x.b.l, x.sg.l, x.v0, x.h0, x.h1, x.h2, x.ks.l, x.rc, x.ins.l.map InR.con, x.lks.l.map LoR.con, x.ro.l, x.un, x.pr, x.bad, x.fee, x.cost, x.prio⟩
/-- What is kept of a transaction: its number, what is told of it, its place, whether it was sent. -/
structure It where
  n : UInt64
  r : RdC
  pl : Nat
  sent : Bool
def It.rk (x : It) : Rk := ⟨x.r.prio, x.n⟩
def idn (k : Nat) : Int64 := Int64.ofNat k
theorem idn_toInt {k : Nat} (h : k < 9223372036854775808) : (idn k).toInt = k := Int64.toInt_ofNat_of_lt h
theorem idn_inj {j k : Nat} (hj : j < 9223372036854775808) (hk : k < 9223372036854775808) (h : idn j = idn k) : j = k := by
  have := congrArg Int64.toInt h
  rw [idn_toInt hj, idn_toInt hk] at this
  omega
def nodeOf (k : Nat) : Option It → List Nd
  | some x => if x.pl = 0 then [⟨x.rk, idn k⟩] else []
  | none => []
/-- Those that wait. -/
def wtg : Nat → List (Option It) → List Nd
  | _, [] => []
  | k, o :: r => nodeOf k o ++ wtg (k + 1) r
theorem wtg_append : ∀ (A : List (Option It)) (k : Nat) (B : List (Option It)), wtg k (A ++ B) = wtg k A ++ wtg (k + A.length) B
  | [], k, B => rfl
  | o :: A, k, B => by
    show nodeOf k o ++ wtg (k + 1) (A ++ B) = (nodeOf k o ++ wtg (k + 1) A) ++ _
    rw [wtg_append A (k + 1) B, List.append_assoc, List.length_cons, show k + 1 + A.length = k + (A.length + 1) by omega]
theorem nodeOf_mem {k : Nat} {o : Option It} {x : Nd} (h : x ∈ nodeOf k o) : ∃ y, o = some y ∧ y.pl = 0 ∧ x = ⟨y.rk, idn k⟩ := by
  cases o with
  | none => cases h
  | some y =>
    unfold nodeOf at h
    by_cases hp : y.pl = 0
    · simp only [hp, if_true, List.mem_singleton] at h
      exact ⟨y, rfl, hp, h⟩
    · simp [hp] at h
theorem wtg_mem : ∀ {S : List (Option It)} {k : Nat} {x : Nd}, x ∈ wtg k S → ∃ i y, S[i]? = some (some y) ∧ y.pl = 0 ∧ x = ⟨y.rk, idn (k + i)⟩
  | [], k, x, h => by cases h
  | o :: S, k, x, h => by
    rcases List.mem_append.1 h with h | h
    · obtain ⟨y, rfl, h1, h2⟩ := nodeOf_mem h
      exact ⟨0, y, rfl, h1, h2⟩
    · obtain ⟨i, y, h1, h2, h3⟩ := wtg_mem (S := S) (k := k + 1) h
      exact ⟨i + 1, y, h1, h2, by rw [h3, show k + 1 + i = k + (i + 1) by omega]⟩
theorem mem_wtg : ∀ {S : List (Option It)} {k i : Nat} {y : It}, S[i]? = some (some y) → y.pl = 0 → ⟨y.rk, idn (k + i)⟩ ∈ wtg k S
  | [], k, i, y, h, _ => by simp at h
  | o :: S, k, 0, y, h, hp => by
    simp only [zC, Option.some.injEq] at h
    subst h
    refine List.mem_append_left _ ?_
    simp [nodeOf, hp]
  | o :: S, k, i + 1, y, h, hp => by
    refine List.mem_append_right _ ?_
    have := mem_wtg (S := S) (k := k + 1) (i := i) (by simpa using h) hp
    rwa [show k + 1 + i = k + (i + 1) by omega] at this
/-- A list about one of its places. -/
theorem at_split {α : Type} {S : List α} {i : Nat} {o : α} (h : S[i]? = some o) : ∃ A B, S = A ++ o :: B ∧ A.length = i := by
  obtain ⟨hi, rfl⟩ := List.getElem?_eq_some_iff.1 h
  exact ⟨S.take i, S.drop (i + 1), by rw [List.getElem_cons_drop, List.take_append_drop], by rw [List.length_take]; omega⟩
theorem set_split {α : Type} {A B : List α} {o p : α} : (A ++ o :: B).set A.length p = A ++ p :: B := by
  rw [List.set_append_right _ _ (Nat.le_refl _), Nat.sub_self]
  rfl
/-- Ids stand once. -/
theorem wtg_ids : ∀ {S : List (Option It)} {k : Nat}, k + S.length < 9223372036854775808 → ((wtg k S).map Nd.id).Nodup
  | [], k, _ => List.nodup_nil
  | o :: S, k, h => by
    rw [List.length_cons] at h
    have ih := wtg_ids (S := S) (k := k + 1) (by omega)
    show ((nodeOf k o ++ wtg (k + 1) S).map Nd.id).Nodup
    rw [List.map_append, List.nodup_append]
    refine ⟨?_, ih, ?_⟩
    · cases o with
      | none => exact List.nodup_nil
      | some x =>
        by_cases hp : x.pl = 0 <;> simp [nodeOf, hp]
    · rintro a ha b hb rfl
      obtain ⟨x, hx, rfl⟩ := List.mem_map.1 ha
      obtain ⟨z, hz, e⟩ := List.mem_map.1 hb
      obtain ⟨y, _, _, rfl⟩ := nodeOf_mem hx
      obtain ⟨i, u, hu, _, rfl⟩ := wtg_mem hz
      have hi : i < S.length := (List.getElem?_eq_some_iff.1 hu).1
      have := idn_inj (by omega) (by omega) e
      omega
theorem wtg_len {S : List (Option It)} {k : Nat} : (wtg k S).length ≤ S.length := by
  induction S generalizing k with
  | nil => exact Nat.le_refl _
  | cons o S ih =>
    show (nodeOf k o ++ wtg (k + 1) S).length ≤ _
    rw [List.length_append, List.length_cons]
    have h := ih (k := k + 1)
    have : (nodeOf k o).length ≤ 1 := by
      unfold nodeOf
      split
      · split <;> simp
      · simp
    omega
/-- What changes at a place: those that wait, but there, and there. -/
def wtgo (i : Nat) (S : List (Option It)) : List Nd := wtg 0 (S.take i) ++ wtg (i + 1) (S.drop (i + 1))
theorem wtg_at {S : List (Option It)} {i : Nat} {o : Option It} (h : S[i]? = some o) : (wtg 0 S).Perm (nodeOf i o ++ wtgo i S) := by
  have hi : i < S.length := (List.getElem?_eq_some_iff.1 h).1
  have e : S = S.take i ++ o :: S.drop (i + 1) := by
    obtain ⟨_, rfl⟩ := List.getElem?_eq_some_iff.1 h
    rw [List.getElem_cons_drop, List.take_append_drop]
  have hl : (S.take i).length = i := by rw [List.length_take]; omega
  have e2 : wtg 0 S = wtg 0 (S.take i) ++ (nodeOf i o ++ wtg (i + 1) (S.drop (i + 1))) := by
    conv => lhs; rw [e]
    rw [wtg_append, hl, Nat.zero_add]
    rfl
  rw [e2]
  unfold wtgo
  rw [← List.append_assoc, ← List.append_assoc]
  exact List.perm_append_comm.append_right _
theorem wtgo_set {S : List (Option It)} {i : Nat} {o : Option It} : wtgo i (S.set i o) = wtgo i S := by
  unfold wtgo
  rw [List.take_set_of_le (Nat.le_refl _), List.drop_set_of_lt (by omega)]
theorem wtg_set {S : List (Option It)} {i : Nat} {o : Option It} (hi : i < S.length) : (wtg 0 (S.set i o)).Perm (nodeOf i o ++ wtgo i S) := by
  rw [← wtgo_set (o := o)]
  exact wtg_at (by rw [List.getElem?_set_self hi])
theorem wtgo_id {S : List (Option It)} {i : Nat} (hS : S.length < 4611686018427387904) {x : Nd} (hx : x ∈ wtgo i S) (hi : i < S.length) : x.id ≠ idn i := by
  intro e
  rcases List.mem_append.1 hx with h | h
  · obtain ⟨j, y, h1, _, rfl⟩ := wtg_mem h
    have hj := (List.getElem?_eq_some_iff.1 h1).1
    rw [List.length_take] at hj
    have := idn_inj (by omega) (by omega) e
    omega
  · obtain ⟨j, y, h1, _, rfl⟩ := wtg_mem h
    have hj := (List.getElem?_eq_some_iff.1 h1).1
    rw [List.length_drop] at hj
    have := idn_inj (by omega) (by omega) e
    omega
/-- Dropped of those that wait. -/
theorem drop_perm {C : List Nd} {S : List (Option It)} {i : Nat} {x : It} (hS : S.length < 4611686018427387904) (hC : C.Perm (wtg 0 S)) (hx : S[i]? = some (some x)) (hp : x.pl = 0) :
    (C.eraseP (fun y => y.id == idn i)).Perm (wtgo i S) := by
  have hi := (List.getElem?_eq_some_iff.1 hx).1
  have h1 := hC.trans (wtg_at hx)
  have hn : nodeOf i (some x) = [⟨x.rk, idn i⟩] := by simp [nodeOf, hp]
  rw [hn] at h1
  have hnd : (C.map Nd.id).Nodup := (hC.map Nd.id).nodup_iff.2 (wtg_ids (by omega))
  have h2 := List.Perm.eraseP (fun y : Nd => y.id == idn i) (by
    rw [List.nodup_iff_pairwise_ne, List.pairwise_map] at hnd
    exact hnd.imp (fun {a b} hab ha hb => hab ((beq_iff_eq.1 ha).trans (beq_iff_eq.1 hb).symm))) h1
  rw [List.singleton_append, List.eraseP_cons_of_pos (by simp)] at h2
  exact h2
theorem node_mem {C : List Nd} {S : List (Option It)} {i : Nat} {x : It} (hC : C.Perm (wtg 0 S)) (hx : S[i]? = some (some x)) (hp : x.pl = 0) : (⟨x.rk, idn i⟩ : Nd) ∈ C := by
  have := mem_wtg (k := 0) hx hp
  rw [Nat.zero_add] at this
  exact hC.mem_iff.2 this
/-- None of them, where none waits. -/
theorem node_none {C : List Nd} {S : List (Option It)} {i : Nat} {o : Option It} (hS : S.length < 4611686018427387904) (hC : C.Perm (wtg 0 S)) (ho : S[i]? = some o) (hn : nodeOf i o = []) : (∀ x ∈ C, x.id ≠ idn i) ∧ C.Perm (wtgo i S) := by
  have h1 := hC.trans (wtg_at ho)
  rw [hn, List.nil_append] at h1
  exact ⟨fun x hx => wtgo_id hS (h1.mem_iff.1 hx) (List.getElem?_eq_some_iff.1 ho).1, h1⟩
/-- One more waits. -/
theorem push_perm {C : List Nd} {S : List (Option It)} {i : Nat} {x : It} (hC : C.Perm (wtgo i S)) (hi : i < S.length) (hp : x.pl = 0) : (C ++ [(⟨x.rk, idn i⟩ : Nd)]).Perm (wtg 0 (S.set i (some x))) := by
  refine List.Perm.trans ?_ (wtg_set hi).symm
  have hn : nodeOf i (some x) = [⟨x.rk, idn i⟩] := by simp [nodeOf, hp]
  rw [hn]
  exact (hC.append_right _).trans List.perm_append_comm
theorem keep_perm {C : List Nd} {S : List (Option It)} {i : Nat} {o : Option It} (hC : C.Perm (wtgo i S)) (hi : i < S.length) (hn : nodeOf i o = []) : C.Perm (wtg 0 (S.set i o)) := by
  refine List.Perm.trans ?_ (wtg_set hi).symm
  rw [hn]
  exact hC
end Go.Proofs.YtdeghpmlhcaedaaDoor
