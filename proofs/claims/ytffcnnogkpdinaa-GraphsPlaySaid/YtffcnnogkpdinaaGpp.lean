/- Graphs: both graphs side by side, for the law GraphsPlay. -/
import Derived.Test.YtffcnnogkpdinaaRq3
namespace Go.Proofs.Ytffcnnogkpdinaa
open Go.RowKit
open Go.ChangeMaps (setBlock)
set_option linter.unusedSimpArgs false
set_option linter.unusedVariables false
/-- What Pop answers, and what is left. -/
def PopK (id : Int64) (K : List Rn) (ev : Int) (K' : List Rn) : Prop :=
  ((∀ x ∈ K, x.id ≠ id) ∧ ev = 11 ∧ K' = K) ∨ ∃ i x, K[i]? = some x ∧ x.id = id ∧ (((K.take i).any (fun z => conf z.l x.l) = true ∧ ev = 23 ∧ K' = K) ∨ ((K.take i).any (fun z => conf z.l x.l) = false ∧ ev = 0 ∧ K' = K.eraseIdx i))
def PutK (id : Int64) (l : List Role) (K : List Rn) (ev : Int) (K' : List Rn) : Prop :=
  ((∃ x ∈ K, x.id = id) ∧ ev = 12 ∧ K' = K) ∨ ((∀ x ∈ K, x.id ≠ id) ∧ ev = 0 ∧ K' = K ++ [⟨id, chainR K id l, l⟩])
def ChK (id : Int64) (K : List Rn) (c e : Int) : Prop :=
  (∃ x ∈ K, x.id = id ∧ c = x.ch.toInt ∧ e = 0) ∨ ((∀ x ∈ K, x.id ≠ id) ∧ c = 0 ∧ e = 11)
theorem id_or (K : List Rn) (id : Int64) : (∀ x ∈ K, x.id ≠ id) ∨ ∃ (i : Nat) (x : Rn), K[i]? = some x ∧ x.id = id := by
  by_cases h : ∃ x ∈ K, x.id = id
  · obtain ⟨x, hx, e⟩ := h
    obtain ⟨i, hi⟩ := List.mem_iff_getElem?.1 hx
    exact .inr ⟨i, x, hi, e⟩
  · exact .inl fun x hx e => h ⟨x, hx, e⟩
theorem id_one {K : List Rn} (hn : (K.map Rn.id).Nodup) {i j : Nat} {x y : Rn} (hi : K[i]? = some x) (hj : K[j]? = some y) (e : x.id = y.id) : i = j := by
  have h1 : (K.map Rn.id)[i]? = some x.id := by rw [List.getElem?_map, hi]; rfl
  have h2 : (K.map Rn.id)[j]? = some x.id := by rw [List.getElem?_map, hj, e]; rfl
  obtain ⟨l1, e1⟩ := List.getElem?_eq_some_iff.1 h1
  obtain ⟨l2, e2⟩ := List.getElem?_eq_some_iff.1 h2
  exact (List.getElem_inj hn).1 (e1.trans e2.symm)
theorem popA_c {g q : Nat} {K : List Rn} {T : Nat → Prop} {w : World} (hA : RAt g q K T w) (id : Int64) : Calls Try.prog 16 #[ptrV g, .int .i64 id.toInt] w fun e w' =>
    ∃ ev K', PopK id K ev K' ∧ e = .returned (.int .i64 ev) ∧ RAt g q K' T w' ∧ Mod T w w' := by
  rcases id_or K id with h | ⟨i, x, hi, rfl⟩
  · refine (popN_c hA id h).mono ?_
    rintro e w' ⟨rfl, hm⟩
    exact ⟨_, _, .inl ⟨h, rfl, rfl⟩, rfl, hA.mod0 hm, hm.mono (fun _ _ h => h.elim)⟩
  · have hs := split_at hi
    have hA2 := hA
    rw [hs] at hA2
    refine (popR_c hA2).mono ?_
    rintro e w' (⟨hc, rfl, hm⟩ | ⟨hc, rfl, hA', hm⟩)
    · exact ⟨_, _, .inr ⟨i, x, hi, rfl, .inl ⟨hc, rfl, rfl⟩⟩, rfl, hA.mod0 hm, hm.mono (fun _ _ h => h.elim)⟩
    · refine ⟨_, _, .inr ⟨i, x, hi, rfl, .inr ⟨hc, rfl, rfl⟩⟩, rfl, ?_, hm⟩
      rw [List.eraseIdx_eq_take_drop_succ]
      exact hA'
theorem putA2_c {g q : Nat} {K : List Rn} {T : Nat → Prop} {w : World} (hA : RAt g q K T w) (hq : q < 900) (id : Int64) (a : Option Addr) (l : List Role) (c : Nat) (hl : RolesAt w a l) (hll : l.length ≤ 800) (hd : l ≠ [] → ∀ b o, a = some ⟨b, o, none⟩ → ¬ T b) : Calls Try.prog 10 #[ptrV g, .int .i64 id.toInt, .slice a l.length c] w fun e w' =>
    ∃ ev K', PutK id l K ev K' ∧ e = .returned (.int .i64 ev) ∧ ∃ q' T', q' ≤ q + 1 ∧ RAt g q' K' T' w' ∧ Mod T w w' ∧ ∀ i, T' i → T i ∨ w.heap.size ≤ i := by
  rcases id_or K id with h | ⟨i, x, hi, rfl⟩
  · refine (putR_c hA hq id a l c hl hll hd h).mono ?_
    rintro e w' ⟨rfl, T', h1, h2, h3⟩
    exact ⟨_, _, .inr ⟨h, rfl, rfl⟩, rfl, q + 1, T', Nat.le_refl _, h1, h2, h3⟩
  · refine (putT_c hA x (List.mem_of_getElem? hi) _).mono ?_
    rintro e w' ⟨rfl, rfl⟩
    exact ⟨_, _, .inl ⟨⟨x, List.mem_of_getElem? hi, rfl⟩, rfl, rfl⟩, rfl, q, T, Nat.le_succ _, hA, Mod.refl _ _, fun i hi => .inl hi⟩
theorem chA_c {g q : Nat} {K : List Rn} {T : Nat → Prop} {w : World} (hA : RAt g q K T w) (id : Int64) : Calls Try.prog 11 #[ptrV g, .int .i64 id.toInt] w fun e w' =>
    (∃ c ev, ChK id K c ev ∧ e = .returned (.tuple #[.int .i64 c, .int .i64 ev])) ∧ w' = w := by
  rcases id_or K id with h | ⟨i, x, hi, rfl⟩
  · refine (chainN_c hA id h).mono ?_
    rintro e w' ⟨rfl, rfl⟩
    exact ⟨⟨_, _, .inr ⟨h, rfl, rfl⟩, rfl⟩, rfl⟩
  · refine (chainR_c hA x (List.mem_of_getElem? hi)).mono ?_
    rintro e w' ⟨rfl, rfl⟩
    exact ⟨⟨_, _, .inl ⟨x, List.mem_of_getElem? hi, rfl, rfl, rfl⟩, rfl⟩, rfl⟩
theorem rns_mem {L : List Nq} {y : Nq} (h : y ∈ L) : y.x ∈ rnsOf L := List.mem_map.2 ⟨y, h, rfl⟩
theorem rns_get {L : List Nq} {i : Nat} {y : Nq} (h : L[i]? = some y) : (rnsOf L)[i]? = some y.x := by
  unfold rnsOf
  rw [List.getElem?_map, h]
  rfl
theorem rns_get' {L : List Nq} {i : Nat} {x : Rn} (h : (rnsOf L)[i]? = some x) : ∃ y, L[i]? = some y ∧ y.x = x := by
  unfold rnsOf at h
  rw [List.getElem?_map] at h
  cases hz : L[i]? with
  | none => rw [hz] at h; cases h
  | some y => rw [hz] at h; cases h; exact ⟨y, rfl, rfl⟩
theorem rns_erase (L : List Nq) (i : Nat) : rnsOf (L.eraseIdx i) = (rnsOf L).eraseIdx i := by
  unfold rnsOf
  rw [List.eraseIdx_eq_take_drop_succ, List.eraseIdx_eq_take_drop_succ, List.map_append, List.map_take, List.map_drop]
theorem popQ_c {p : Nat} {L : List Nq} {T : Nat → Prop} {w : World} (h : RQ p L T w) (hT : ∀ i, T i → i < w.heap.size) (hL : L.length ≤ 900) (hn : ((rnsOf L).map Rn.id).Nodup) (id : Int64) {ev : Int} {K' : List Rn} (hP : PopK id (rnsOf L) ev K') : Calls Try.prog 17 #[ptrV p, .int .i64 id.toInt] w fun e w' =>
    e = .returned (.int .i64 ev) ∧ ∃ L' T', rnsOf L' = K' ∧ RQ p L' T' w' ∧ Mod T w w' ∧ (∀ i, T' i → T i ∨ w.heap.size ≤ i) ∧ ∀ i, T' i → i < w'.heap.size := by
  refine (qpop_c h hT id hL).mono ?_
  rintro e w' (⟨h1, rfl, hm⟩ | ⟨i, y, hi, rfl, h2⟩)
  · rcases hP with ⟨_, rfl, rfl⟩ | ⟨i, x, hi, e1, _⟩
    · exact ⟨rfl, L, T, rfl, h.mod0 hm, hm.mono (fun _ _ h => h.elim), fun i hi => .inl hi, fun i hi => Nat.lt_of_lt_of_le (hT i hi) hm.size⟩
    · obtain ⟨y, hy, rfl⟩ := rns_get' hi
      exact absurd e1 (h1 y (List.mem_of_getElem? hy))
  · rcases hP with ⟨h3, _, _⟩ | ⟨j, x, hj, e1, h3⟩
    · exact absurd rfl (h3 y.x (rns_mem (List.mem_of_getElem? hi)))
    · obtain rfl := id_one hn hj (rns_get hi) e1
      rw [rns_get hi] at hj
      cases hj
      rcases h2 with ⟨c1, rfl, hm⟩ | ⟨c1, rfl, T', q1, q2, q3, q4⟩
      · rcases h3 with ⟨_, rfl, rfl⟩ | ⟨c2, _, _⟩
        · exact ⟨rfl, L, T, rfl, h.mod0 hm, hm.mono (fun _ _ h => h.elim), fun i hi => .inl hi, fun i hi => Nat.lt_of_lt_of_le (hT i hi) hm.size⟩
        · rw [c1] at c2; cases c2
      · rcases h3 with ⟨c2, _, _⟩ | ⟨_, rfl, rfl⟩
        · rw [c1] at c2; cases c2
        · exact ⟨rfl, _, T', rns_erase L _, q1, q2, q3, q4⟩
theorem putQ_c {p : Nat} {L : List Nq} {T : Nat → Prop} {w : World} (h : RQ p L T w) (hT : ∀ i, T i → i < w.heap.size) (hL : L.length ≤ 900) (id : Int64) (a : Option Addr) (l : List Role) (c : Nat) (hl : RolesAt w a l) (hll : l.length ≤ 1000) {ev : Int} {K' : List Rn} (hP : PutK id l (rnsOf L) ev K') : Calls Try.prog 18 #[ptrV p, .int .i64 id.toInt, .slice a l.length c] w fun e w' =>
    e = .returned (.int .i64 ev) ∧ ∃ L' T', rnsOf L' = K' ∧ L'.length ≤ L.length + 1 ∧ RQ p L' T' w' ∧ Mod T w w' ∧ (∀ i, T' i → T i ∨ w.heap.size ≤ i) ∧ ∀ i, T' i → i < w'.heap.size := by
  rcases hP with ⟨⟨x, hx, e1⟩, rfl, rfl⟩ | ⟨h1, rfl, rfl⟩
  · obtain ⟨y, hy, rfl⟩ := List.mem_map.1 hx
    refine (qputT_c h hL id _ ⟨y, hy, e1⟩).mono ?_
    rintro e w' ⟨rfl, hm⟩
    exact ⟨rfl, L, T, rfl, Nat.le_succ _, h.mod0 hm, hm.mono (fun _ _ h => h.elim), fun i hi => .inl hi, fun i hi => Nat.lt_of_lt_of_le (hT i hi) hm.size⟩
  · refine (qput_c h hT hL id a l c hl hll (fun y hy => h1 y.x (rns_mem hy))).mono ?_
    rintro e w' ⟨rfl, y, T', hy, q1, q2, q3, q4⟩
    refine ⟨rfl, L ++ [y], T', ?_, by simp, q1, q2, q3, q4⟩
    unfold rnsOf
    rw [List.map_append, List.map_singleton, hy]
    rfl
theorem chQ_c {p : Nat} {L : List Nq} {T : Nat → Prop} {w : World} (h : RQ p L T w) (hL : L.length ≤ 900) (hn : ((rnsOf L).map Rn.id).Nodup) (id : Int64) {c ev : Int} (hP : ChK id (rnsOf L) c ev) : Calls Try.prog 21 #[ptrV p, .int .i64 id.toInt] w fun e w' => e = .returned (.tuple #[.int .i64 c, .int .i64 ev]) ∧ Mod (fun _ => False) w w' := by
  refine (qchain_c h id (by omega)).mono ?_
  rintro e w' ⟨h1, hm⟩
  refine ⟨?_, hm⟩
  rcases h1 with ⟨y, hy, rfl, rfl⟩ | ⟨h1, rfl⟩
  · rcases hP with ⟨x, hx, e1, rfl, rfl⟩ | ⟨h2, _, _⟩
    · obtain ⟨i, hi⟩ := List.mem_iff_getElem?.1 hx
      obtain ⟨j, hj⟩ := List.mem_iff_getElem?.1 (rns_mem hy)
      obtain rfl := id_one hn hi hj e1
      rw [hi] at hj
      cases hj
      rfl
    · exact absurd rfl (h2 y.x (rns_mem hy))
  · rcases hP with ⟨x, hx, e1, _, _⟩ | ⟨_, rfl, rfl⟩
    · obtain ⟨y, hy, rfl⟩ := List.mem_map.1 hx
      exact absurd e1 (h1 y hy)
    · rfl
end Go.Proofs.Ytffcnnogkpdinaa
