/- Graphs, Put: what a key's spot turns into, and what a step leaves. -/
import Derived.Test.YtffcnnogkpdinaaGs
namespace Go.Proofs.Ytffcnnogkpdinaa
open Go.RowKit Go.Shelf
open Go.ChangeMaps (setBlock)
set_option linter.unusedSimpArgs false
set_option linter.unusedVariables false
theorem lkp_inj {κ ν : Type} [DecidableEq κ] {S : List (κ × ν)} (h : (S.map Prod.snd).Nodup) {j k : κ} {s : ν} (hj : lkp j S = some s) (hk : lkp k S = some s) : j = k := by
  replace hj := lkp_mem hj
  replace hk := lkp_mem hk
  induction S with
  | nil => cases hj
  | cons p r ih =>
    rw [List.map_cons, List.nodup_cons] at h
    rcases List.mem_cons.1 hj with e1 | hj <;> rcases List.mem_cons.1 hk with e2 | hk
    · rw [← e1] at e2; cases e2; rfl
    · exact absurd (List.mem_map.2 ⟨_, hk, by rw [← e1]⟩) h.1
    · exact absurd (List.mem_map.2 ⟨_, hj, by rw [← e2]⟩) h.1
    · exact ih h.2 hj hk
section
variable {L : List An} {x : An} {D : List (Key × Bool)} {S : List (Key × Nat)} {sp : Nat → Sr}
theorem SpP.fresh (h : SpP L x D S sp) {k : Key} {s : Nat} (hk : lkp k S = none) (hs : ∀ p ∈ S, p.2 ≠ s) : SpP L x D (put k s S) (upd sp s ⟨none, .slice none 0 0, []⟩) := by
  have hD : ∀ h', (k, h') ∉ D := fun h' hh => by
    obtain ⟨s', h1, _⟩ := h.done k ⟨h', hh⟩
    rw [hk] at h1
    cases h1
  have hne : ∀ {j s'}, lkp j S = some s' → s' ≠ s := fun hj => hs _ (lkp_mem hj)
  refine ⟨?_, fun j hj => ?_, fun j hj => ?_⟩
  · rw [put_none hk, List.map_append]
    refine List.nodup_append.2 ⟨h.sn, by simp, fun y hy z hz e => ?_⟩
    obtain ⟨p, hp, rfl⟩ := List.mem_map.1 hy
    simp at hz
    exact hs p hp (e.trans hz)
  · obtain ⟨s', h1, h2⟩ := h.done j hj
    have hjk : j ≠ k := fun e => by rw [e, hk] at h1; cases h1
    exact ⟨s', by rw [lkp_put_ne hjk, h1], by rw [upd_ne _ _ (hne h1)]; exact h2⟩
  · obtain ⟨h1, h2⟩ := h.left j hj
    by_cases hjk : j = k
    · subst hjk
      rw [lkp_put_same]
      refine ⟨fun s' e => ?_, fun e => by cases e⟩
      cases e
      rw [upd_same, h2 hk]
      exact ⟨rfl, rfl⟩
    · rw [lkp_put_ne hjk]
      exact ⟨fun s' e => by rw [upd_ne _ _ (hne e)]; exact h1 s' e, h2⟩
theorem SpP.step (h : SpP L x D S sp) {k : Key} {b : Bool} {s : Nat} {X : Sr} (hk : lkp k S = some s) (hX : SpIs X (spotOf k (L ++ [x]))) : SpP L x (D ++ [(k, b)]) S (upd sp s X) := by
  refine ⟨h.sn, fun j hj => ?_, fun j hj => ?_⟩
  · by_cases hjk : j = k
    · subst hjk
      exact ⟨s, hk, by rw [upd_same]; exact hX⟩
    · obtain ⟨h', hj⟩ := hj
      have : (j, h') ∈ D := by
        rcases List.mem_append.1 hj with hj | hj
        · exact hj
        · simp at hj; exact absurd hj.1 hjk
      obtain ⟨s', h1, h2⟩ := h.done j ⟨h', this⟩
      have : s' ≠ s := fun e => hjk (lkp_inj h.sn h1 (e ▸ hk))
      exact ⟨s', h1, by rw [upd_ne _ _ this]; exact h2⟩
  · have hjk : j ≠ k := fun e => hj b (by rw [e]; simp)
    obtain ⟨h1, h2⟩ := h.left j (fun h' hh => hj h' (List.mem_append_left _ hh))
    refine ⟨fun s' e => ?_, h2⟩
    have : s' ≠ s := fun e2 => hjk (lkp_inj h.sn e (e2 ▸ hk))
    rw [upd_ne _ _ this]
    exact h1 s' e
end
theorem sub_list {α : Type} {p : α → Prop} : ∀ (l : List α), (∀ x ∈ l, p x) → ∃ l' : List {x // p x}, l'.map (·.1) = l
  | [], _ => ⟨[], rfl⟩
  | x :: r, h => by
    obtain ⟨l', e⟩ := sub_list r (fun y hy => h y (by simp [hy]))
    exact ⟨⟨x, h x (by simp)⟩ :: l', by simp [e]⟩
theorem sub_opt {α : Type} {p : α → Prop} (o : Option α) (h : ∀ x, o = some x → p x) : ∃ o' : Option {x // p x}, o'.map (·.1) = o := by
  cases o with
  | none => exact ⟨none, rfl⟩
  | some x => exact ⟨some ⟨x, h x rfl⟩, rfl⟩
/-- Those ahead, as members. -/
theorem ahead_src (L : List An) (k : Key) : ∃ (zw : Option {b : An // b ∈ L}) (zr : List {b : An // b ∈ L}), zw.map subA = (spotOf k L).1.map An.a ∧ zr.map subA = (spotOf k L).2.map An.a ∧ zr.length ≤ L.length ∧ ∀ h, (aheadL zw zr h).map (·.1) = srcK L k h := by
  obtain ⟨zw, e1⟩ := sub_opt (p := fun b => b ∈ L) (spotOf k L).1 (fun x hx => (spotOf_writer hx).1)
  obtain ⟨zr, e2⟩ := sub_list (p := fun b => b ∈ L) (spotOf k L).2 (fun x hx => (spotOf_reader hx).1)
  refine ⟨zw, zr, ?_, ?_, ?_, fun h => ?_⟩
  · rw [← e1, Option.map_map]; rfl
  · rw [← e2, List.map_map]; rfl
  · have := congrArg List.length e2
    rw [List.length_map] at this
    rw [this]
    exact spot_len k L
  · unfold aheadL srcK
    rw [List.map_append, ← e1, ← e2]
    congr 1
    · cases zw <;> rfl
    · cases h <;> simp
/-! ### What steps leave -/
section
variable {g nb sb q : Nat} {L : List An} {a : Nat} {id : Int64} {kb : Nat} {ks : List (Key × Bool)} {N : List (Int64 × Nat)} {S : List (Key × Nat)} {nd0 : Nat → Nr} {sp : Nat → Sr} {b7 p10 : Nat} {E : List An} {tag tag' : Tag} {nd : Nat → Nr} {w w' : World}
theorem EI.mod {M : Nat → Prop} (H : EI g nb sb q L a id kb ks N S nd0 sp b7 p10 E tag nd w) (hm : Mod M w w') (hM : ∀ i, tag i ≠ none → ¬ M i) (h7 : ¬ M b7) (hl : ¬ M p10) : EI g nb sb q L a id kb ks N S nd0 sp b7 p10 E tag nd w' :=
  ⟨H.mem.mod hm hM, H.ndp, hm.at H.k7 h7, hm.at H.kl hl, fun i hi => Nat.lt_of_lt_of_le (H.hlt i hi) hm.size, H.n7, H.nl⟩
theorem EI.mod0 (H : EI g nb sb q L a id kb ks N S nd0 sp b7 p10 E tag nd w) (hm : Mod (fun _ => False) w w') : EI g nb sb q L a id kb ks N S nd0 sp b7 p10 E tag nd w' := H.mod hm (fun _ _ h => h) (fun h => h) (fun h => h)
/-- A spot is told anew. -/
theorem EI.spot {M : Nat → Prop} {s : Nat} {X : Sr} (H : EI g nb sb q L a id kb ks N S nd0 sp b7 p10 E tag nd w) (hm : Mod M w w') (hM : ∀ i c r, tag i = some (c, r) → M i → c = s ∧ 3 ≤ r ∧ r ≤ 4) (h7 : ¬ M b7) (hl : ¬ M p10) (ht : ∀ i, i < w.heap.size → tag' i = tag i) (hx : SpAt tag' w' s X)
    (hlt : ∀ i, tag' i ≠ none → i < w'.heap.size) : EI g nb sb q L a id kb ks N S nd0 (upd sp s X) b7 p10 E tag' nd w' :=
  ⟨H.mem.spot hm hM ht hx, H.ndp, hm.at H.k7 h7, hm.at H.kl hl, hlt, (ht _ (lt_size H.k7)).trans H.n7, (ht _ (lt_size H.kl)).trans H.nl⟩
/-- A spot more. -/
theorem EI.fresh {M : Nat → Prop} {s : Nat} {k : Key} (H : EI g nb sb q L a id kb ks N S nd0 sp b7 p10 E tag nd w) (hm : Mod M w w') (hM : ∀ i, M i → i = sb) (hs : w.heap.size ≤ s) (hk : lkp k S = none)
    (ks' : w'.heap[s]? = some (.cells #[.pointer none, .slice none 0 0] 69 (0, 0))) (hS : ∃ es c, w'.heap[sb]? = some (.map es c) ∧ MapIs kv ptrV es c (put k s S)) :
    EI g nb sb q L a id kb ks N (put k s S) nd0 (upd sp s ⟨none, .slice none 0 0, []⟩) b7 p10 E (upd tag s (some (s, 3))) nd w' := by
  have hlt : ∀ i, tag i ≠ none → i ≠ s := fun i hi e => by have := H.hlt i hi; omega
  have ht : ∀ i, i < w.heap.size → upd tag s (some (s, 3)) i = tag i := fun i hi => upd_ne _ _ (by omega)
  have hn : ∀ i c r, tag i = some (c, r) → (c, r) ≠ (g, 7) → ¬ M i := fun i c r e hne hi => by
    rw [hM i hi, H.mem.tsb] at e
    cases e
    exact hne rfl
  obtain ⟨es, c, hk1, M1⟩ := H.mem.kn
  obtain ⟨es2, c2, hk2, M2⟩ := hS
  have hsz := lt_size ks'
  refine ⟨⟨hm.at H.mem.c (hn _ _ _ H.mem.tg (by simp)), ⟨es, c, hm.at hk1 (hn _ _ _ H.mem.tnb (by simp)), M1⟩, ⟨es2, c2, hk2, M2⟩, fun c hc => (H.mem.nodes c hc).mod hm (fun i r e hr => hn i _ _ e (by simp; omega)) ht, fun p hp => ?_, (ht _ (lt_size H.mem.c)).trans H.mem.tg, (ht _ (lt_size hk1)).trans H.mem.tnb, ?_⟩, H.ndp, hm.at H.k7 (fun h => ?_), hm.at H.kl (fun h => ?_), fun i hi => ?_, (ht _ (lt_size H.k7)).trans H.n7, (ht _ (lt_size H.kl)).trans H.nl⟩
  · rw [put_none hk] at hp
    rcases List.mem_append.1 hp with hp | hp
    · have h0 := H.mem.spots p hp
      have : p.2 ≠ s := fun e => by have := lt_size h0.c; omega
      rw [upd_ne _ _ this]
      exact h0.mod hm (fun i r e h3 h4 => hn i _ _ e (by simp; omega)) ht
    · simp at hp
      subst hp
      rw [upd_same]
      exact ⟨ks', SlOwn.nil _ _, upd_same _ _ _, fun g hg => by cases hg⟩
  · obtain ⟨_, _, hk3, _⟩ := H.mem.ks
    exact (ht _ (lt_size hk3)).trans H.mem.tsb
  · have e := H.n7
    rw [hM _ h, H.mem.tsb] at e
    cases e
  · have e := H.nl
    rw [hM _ h, H.mem.tsb] at e
    cases e
  · by_cases e : i = s
    · rw [e]; exact hsz
    · rw [upd_ne _ _ e] at hi
      exact Nat.lt_of_lt_of_le (H.hlt i hi) hm.size
end
end Go.Proofs.Ytffcnnogkpdinaa
