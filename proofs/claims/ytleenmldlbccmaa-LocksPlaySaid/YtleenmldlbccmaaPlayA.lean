/- Take and Release, by any worker, of the table and of the reference's: one answer, one list of locks. -/
import Derived.Test.YtleenmldlbccmaaRef3
namespace Go.Proofs.Ytleenmldlbccmaa
open Go.RowKit
set_option linter.unusedSimpArgs false
set_option linter.unusedVariables false
def wf64 (x : Int) : Fin 64 := ⟨x.toNat % 64, by omega⟩
def outW (N : Nat) (x : Int) : Prop := x < 0 ∨ (N : Int) ≤ x
instance (N : Nat) (x : Int) : Decidable (outW N x) := inferInstanceAs (Decidable (_ ∨ _))
def takeE (N : Nat) (L : List Lk) (q : List Role) (x : Int) : Int := if outW N x then 1 else if freeB L q (wf64 x).val then 0 else 23
def takeL (N : Nat) (L : List Lk) (q : List Role) (x : Int) : List Lk := if outW N x then L else if freeB L q (wf64 x).val then addL L q (wf64 x) else L
def relE (N : Nat) (L : List Lk) (q : List Role) (x : Int) : Int := if outW N x then 1 else if relB L q (wf64 x) then 0 else 11
def relL (N : Nat) (L : List Lk) (q : List Role) (x : Int) : List Lk := if outW N x then L else if relB L q (wf64 x) then subL L q (wf64 x) else L
theorem wf64_val {N : Nat} {x : Int} (h : ¬ outW N x) (hN : N ≤ 64) : ((wf64 x).val : Int) = x ∧ (wf64 x).val < N := by
  unfold outW at h
  unfold wf64
  simp only
  omega
def APost (w : World) (t hb wb N : Nat) (ev : Int) (L' : List Lk) (e : Ending) (w' : World) : Prop :=
  e = .returned (.int .i64 ev) ∧ TabAt w' t hb wb N L' ∧ Mod (fun i => i = hb ∨ i = wb) w w'
def BPost (w : World) (tb N base : Nat) (v : Value) (n : Nat) (ev : Int) (L' : List Lk) (e : Ending) (w' : World) : Prop :=
  e = .returned (.int .i64 ev) ∧ (∃ v' L2, RTab w' tb N base v' L2 ∧ (∀ x, L2.count x = L'.count x) ∧ L2.length ≤ n ∧ OwnNew v v' w) ∧ RMod tb v w w'
theorem a_take (t hb wb N : Nat) (L : List Lk) (a : Option Addr) (q : List Role) (c : Nat) (x : Int) (w : World) (h : TabAt w t hb wb N L) (hn : 1 ≤ N) (hn2 : N ≤ 64) (hl : RolesAt w a q) (hlen : L.length + q.length ≤ 1000000) :
    Calls Try.prog 17 #[.pointer (some ⟨t, 0, none⟩), .slice a q.length c, .int .i64 x] w (APost w t hb wb N (takeE N L q x) (takeL N L q x)) := by
  by_cases ho : outW N x
  · unfold takeE takeL
    rw [if_pos ho, if_pos ho]
    obtain ⟨_, kt, _⟩ := id h
    by_cases h0 : x < 0
    · exact (take_neg t hb wb N a q.length c x w kt h0).mono fun e w' ⟨he, hw⟩ => ⟨he, hw ▸ h, hw ▸ Mod.refl _ _⟩
    · exact (take_big t hb wb N a q.length c x w kt (by omega) (ho.resolve_left h0)).mono fun e w' ⟨he, hw⟩ => ⟨he, hw ▸ h, hw ▸ Mod.refl _ _⟩
  · obtain ⟨hx, hlt⟩ := wf64_val ho hn2
    unfold takeE takeL
    rw [if_neg ho, if_neg ho]
    have hm := take_m t hb wb N L a q c (wf64 x) w h hn hn2 hl hlen hlt
    rw [hx] at hm
    refine hm.mono fun e w' hp => ?_
    unfold TakePost at hp
    cases hf : freeB L q (wf64 x).val with
    | true =>
      rw [hf, if_pos rfl] at hp
      exact hp
    | false =>
      rw [hf, if_neg (by simp)] at hp
      exact ⟨hp.1, h.mod0 hp.2, hp.2.mono fun _ _ h => h.elim⟩
theorem a_rel (t hb wb N : Nat) (L : List Lk) (a : Option Addr) (q : List Role) (c : Nat) (x : Int) (w : World) (h : TabAt w t hb wb N L) (hn : 1 ≤ N) (hn2 : N ≤ 64) (hl : RolesAt w a q) (hlen : L.length + q.length ≤ 1000000) :
    Calls Try.prog 15 #[.pointer (some ⟨t, 0, none⟩), .slice a q.length c, .int .i64 x] w (APost w t hb wb N (relE N L q x) (relL N L q x)) := by
  by_cases ho : outW N x
  · unfold relE relL
    rw [if_pos ho, if_pos ho]
    obtain ⟨_, kt, _⟩ := id h
    by_cases h0 : x < 0
    · exact (release_neg t hb wb N a q.length c x w kt h0).mono fun e w' ⟨he, hw⟩ => ⟨he, hw ▸ h, hw ▸ Mod.refl _ _⟩
    · exact (release_big t hb wb N a q.length c x w kt (by omega) (ho.resolve_left h0)).mono fun e w' ⟨he, hw⟩ => ⟨he, hw ▸ h, hw ▸ Mod.refl _ _⟩
  · obtain ⟨hx, hlt⟩ := wf64_val ho hn2
    unfold relE relL
    rw [if_neg ho, if_neg ho]
    have hm := release_m t hb wb N L a q c (wf64 x) w h hl (by omega) (by omega) hlt
    rw [hx] at hm
    refine hm.mono fun e w' hp => ?_
    cases hf : relB L q (wf64 x) with
    | true =>
      rw [hf, if_pos rfl] at hp
      exact hp
    | false =>
      rw [hf, if_neg (by simp)] at hp
      exact ⟨hp.1, h.mod0 hp.2, hp.2.mono fun _ _ h => h.elim⟩
theorem b_take (tb N base : Nat) (v : Value) (L : List Lk) (a : Option Addr) (q : List Role) (c : Nat) (x : Int) (w : World) (h : RTab w tb N base v L) (hn2 : N ≤ 64) (hlen : L.length + q.length ≤ 900000) (hl : RolesAt w a q)
    (hsep : ∀ b o, a = some ⟨b, o, none⟩ → (b ≠ tb ∧ v.ownBlock ≠ some b ∧ b < w.heap.size) ∨ q = []) (hbase : base ≤ w.heap.size) :
    Calls Try.prog 18 #[.pointer (some ⟨tb, 0, none⟩), .slice a q.length c, .int .i64 x] w (BPost w tb N base v (L.length + q.length) (takeE N L q x) (takeL N L q x)) := by
  by_cases ho : outW N x
  · unfold takeE takeL
    rw [if_pos ho, if_pos ho]
    by_cases h0 : x < 0
    · exact (rtake_neg tb N base v L a q.length c x w h h0).mono fun e w' ⟨he, hw⟩ => ⟨he, ⟨v, L, hw ▸ h, fun _ => rfl, by omega, fun k hk => .inl hk⟩, hw ▸ Mod.refl _ _⟩
    · exact (rtake_big tb N base v L a q.length c x w h (by omega) (ho.resolve_left h0)).mono fun e w' ⟨he, hw⟩ => ⟨he, ⟨v, L, hw ▸ h, fun _ => rfl, by omega, fun k hk => .inl hk⟩, hw ▸ Mod.refl _ _⟩
  · obtain ⟨hx, hlt⟩ := wf64_val ho hn2
    unfold takeE takeL
    rw [if_neg ho, if_neg ho]
    have hm := rtake_c tb N base v L a q c (wf64 x) w h hlt (by omega) hl hsep hbase
    rw [hx] at hm
    refine hm.mono fun e w' hp => ?_
    cases hf : freeB L q (wf64 x).val with
    | true =>
      rw [hf, if_pos rfl] at hp
      obtain ⟨he, ⟨v', hR, ho'⟩, hM⟩ := hp
      exact ⟨he, ⟨v', _, hR, fun y => by rw [if_pos rfl, List.count_append, addL_count], by rw [List.length_append, locksOf_len]; omega, ho'⟩, hM⟩
    | false =>
      rw [hf, if_neg (by simp)] at hp
      exact ⟨hp.1, ⟨v, L, h.mod0 hp.2, fun _ => rfl, by omega, fun k hk => .inl hk⟩, hp.2.mono fun _ _ h => h.elim⟩
theorem b_rel (tb N base : Nat) (v : Value) (L : List Lk) (a : Option Addr) (q : List Role) (c : Nat) (x : Int) (w : World) (h : RTab w tb N base v L) (hn2 : N ≤ 64) (hlen : L.length + q.length ≤ 900000) (hl : RolesAt w a q) (hbase : base ≤ w.heap.size) :
    Calls Try.prog 16 #[.pointer (some ⟨tb, 0, none⟩), .slice a q.length c, .int .i64 x] w (BPost w tb N base v (L.length + q.length) (relE N L q x) (relL N L q x)) := by
  by_cases ho : outW N x
  · unfold relE relL
    rw [if_pos ho, if_pos ho]
    by_cases h0 : x < 0
    · exact (rrel_neg tb N base v L a q.length c x w h h0).mono fun e w' ⟨he, hw⟩ => ⟨he, ⟨v, L, hw ▸ h, fun _ => rfl, by omega, fun k hk => .inl hk⟩, hw ▸ Mod.refl _ _⟩
    · exact (rrel_big tb N base v L a q.length c x w h (by omega) (ho.resolve_left h0)).mono fun e w' ⟨he, hw⟩ => ⟨he, ⟨v, L, hw ▸ h, fun _ => rfl, by omega, fun k hk => .inl hk⟩, hw ▸ Mod.refl _ _⟩
  · obtain ⟨hx, hlt⟩ := wf64_val ho hn2
    unfold relE relL
    rw [if_neg ho, if_neg ho]
    have hm := rrel_c tb N base v L a q c (wf64 x) w h hlt (by omega) (by omega) hl hbase
    rw [hx] at hm
    refine hm.mono fun e w' hp => ?_
    rcases hp with ⟨hf, he, ⟨v', L', hR, ho', hc, hL'⟩, hM⟩ | ⟨hf, he, hM⟩
    · rw [hf, if_pos rfl, if_pos rfl]
      exact ⟨he, ⟨v', L', hR, hc, by omega, ho'⟩, hM.mono fun _ _ h => .inl h⟩
    · rw [hf, if_neg (by simp), if_neg (by simp)]
      exact ⟨he, ⟨v, L, h.mod0 hM, fun _ => rfl, by omega, fun k hk => .inl hk⟩, hM.mono fun _ _ h => h.elim⟩
end Go.Proofs.Ytleenmldlbccmaa
