/- Graphs, the plain law of Pop: one that is ready goes. -/
import Derived.Test.YtffcnnogkpdinaaGu
namespace Go.Proofs.Ytffcnnogkpdinaa
set_option linter.unusedSimpArgs false
set_option linter.unusedVariables false
/-- Two that conflict. -/
def HitC (x y : Cn) : Prop := ∃ k, hitK k (x.how k) (y.how k)
theorem HitC.symm {x y : Cn} (h : HitC x y) : HitC y x := h.imp fun _ => hitK_symm
theorem how_mem {x : An} (hn : (x.ks.map Prod.fst).Nodup) {p : Key × Bool} (h : p ∈ x.ks) : x.how p.1 = some p.2 := lkp_of_mem hn h
theorem srcs_nil_iff {X : List An} {x : An} (hn : (x.ks.map Prod.fst).Nodup) : srcs X x.ks = [] ↔ ∀ y ∈ X, ¬ HitC y.cn x.cn := by
  constructor
  · rintro h y hy ⟨k, hk⟩
    have : ∃ h', x.how k = some h' := by
      cases e : x.how k with
      | none =>
        unfold An.cn at hk
        dsimp only at hk
        rw [e] at hk
        unfold hitK at hk
        cases hy' : y.how k <;> rw [hy'] at hk <;> exact hk.elim
      | some h' => exact ⟨h', rfl⟩
    obtain ⟨h', e⟩ := this
    refine srcs_ne (p := (k, h')) hy (lkp_mem e) ?_ h
    have hk2 : hitK k (y.how k) (x.how k) := hk
    rwa [e] at hk2
  · intro h
    cases e : srcs X x.ks with
    | nil => rfl
    | cons b r =>
      obtain ⟨h1, p, hp, hh⟩ := srcs_mem (show b ∈ srcs X x.ks by rw [e]; simp)
      exact absurd ⟨p.1, by have := how_mem hn hp; unfold An.cn; dsimp only; rw [this]; exact hh⟩ (h b h1)
theorem del_perm {κ ν : Type} [DecidableEq κ] {k : κ} {v : ν} : ∀ {m : List (κ × ν)}, (m.map Prod.fst).Nodup → (k, v) ∈ m → m.Perm ((k, v) :: del k m)
  | [], _, h => by cases h
  | p :: r, hn, h => by
    rw [List.map_cons, List.nodup_cons] at hn
    rcases List.mem_cons.1 h with rfl | h
    · simp [del]
    · have hpk : p.1 ≠ k := fun e => hn.1 (e ▸ List.mem_map.2 ⟨_, h, rfl⟩)
      rw [del, if_neg hpk]
      exact ((del_perm hn.2 h).cons p).trans (List.Perm.swap _ _ _)
theorem app_split {α : Type} : ∀ {X Y X' Y' : List α} {x : α}, X ++ Y = X' ++ x :: Y' → (∃ Z, X = X' ++ x :: Z ∧ Y' = Z ++ Y) ∨ ∃ Z, X' = X ++ Z ∧ Y = Z ++ x :: Y'
  | [], Y, X', Y', x, h => .inr ⟨X', rfl, h⟩
  | a :: X, Y, [], Y', x, h => by
    simp at h
    exact .inl ⟨X, by rw [h.1]; rfl, h.2.symm⟩
  | a :: X, Y, b :: X', Y', x, h => by
    simp only [List.cons_append, List.cons.injEq] at h
    rcases app_split h.2 with ⟨Z, h1, h2⟩ | ⟨Z, h1, h2⟩
    · exact .inl ⟨Z, by rw [h.1, h1]; rfl, h2⟩
    · exact .inr ⟨Z, by rw [h.1, h1]; rfl, h2⟩
theorem len_filter_ne {l : List An} {p : An} : (l.filter fun x => decide (x ≠ p)).length = l.length - l.count p := by
  induction l with
  | nil => rfl
  | cons x r ih =>
    have hc := List.count_le_length (a := p) (l := r)
    rw [List.filter_cons]
    by_cases h : x = p
    · rw [if_neg (by simp [h]), ih, List.length_cons, h, List.count_cons_self]; omega
    · rw [if_pos (by simp [h]), List.length_cons, ih, List.length_cons, List.count_cons_of_ne h]; omega
theorem filter_self {α : Type} [DecidableEq α] {l : List α} {p : α} (h : ∀ y ∈ l, y ≠ p) : l.filter (fun y => decide (y ≠ p)) = l := List.filter_eq_self.2 fun y hy => decide_eq_true (h y hy)
theorem count_filter_ne {l : List An} {p b : An} (h : b ≠ p) : (l.filter fun x => decide (x ≠ p)).count b = l.count b := by
  induction l with
  | nil => rfl
  | cons x r ih =>
    rw [List.filter_cons]
    by_cases hx : x = p
    · rw [if_neg (by simp [hx]), ih, hx, List.count_cons_of_ne (Ne.symm h)]
    · rw [if_pos (by simp [hx]), List.count_cons, List.count_cons, ih]
/-- What a spot of one that goes turns into. -/
def goneS (a : Nat) (s : Sr) (s' : Sr) : Prop := s'.wr = (if s.wr = some a then none else s.wr) ∧ s'.rs = s.rs.filter fun y => decide (y ≠ a)
section
variable {q : Nat} {X Y : List An} {p : An} {N : List (Int64 × Nat)} {S : List (Key × Nat)} {nd nd' : Nat → Nr} {sp sp' : Nat → Sr}
theorem GInv.notin (I : GInv q (X ++ p :: Y) N S nd sp) : p ∉ X ∧ p ∉ Y := by
  have h := I.ad
  rw [List.map_append, List.map_cons, List.nodup_append, List.nodup_cons] at h
  exact ⟨fun hp => h.2.2 p.a (List.mem_map.2 ⟨p, hp, rfl⟩) p.a (by simp) rfl, fun hp => h.2.1.1 (List.mem_map.2 ⟨p, hp, rfl⟩)⟩
theorem mem_mid {x : An} (h : x ∈ X ++ Y) : x ∈ X ++ p :: Y := by
  rcases List.mem_append.1 h with h | h
  · exact List.mem_append_left _ h
  · exact List.mem_append_right _ (List.mem_cons_of_mem _ h)
/-- The nodes behind Pop. -/
def PopNd (L : List An) (p : An) (nd nd' : Nat → Nr) : Prop := ∀ c ∈ L, nd' c.a = { nd c.a with wt := (nd c.a).wt - (nd p.a).nx.count c.a }
def PopSp (p : An) (S : List (Key × Nat)) (sp sp' : Nat → Sr) : Prop := ∀ k s, lkp k S = some s → ((∃ h, (k, h) ∈ p.ks) → goneS p.a (sp s) (sp' s)) ∧ ((∀ h, (k, h) ∉ p.ks) → sp' s = sp s)
theorem GInv.pop (I : GInv q (X ++ p :: Y) N S nd sp) (hN : (N.map Prod.fst).Nodup) (h0 : srcs X p.ks = []) (hnd : PopNd (X ++ Y) p nd nd') (hsp : PopSp p S sp sp') : GInv q (X ++ Y) (del p.id N) S nd' sp' := by
  obtain ⟨hp1, hp2⟩ := I.notin
  have hpn := I.kn p (by simp)
  have hne : ∀ {b}, b ∈ X ++ Y → b ≠ p := fun h e => by
    subst e
    rcases List.mem_append.1 h with h | h
    · exact hp1 h
    · exact hp2 h
  have hc : ∀ k, p.how k = some true → ∀ x ∈ X, x.how k = none := fun k hk x hx => by
    cases e : x.how k with
    | none => rfl
    | some b => exact absurd h0 (srcs_ne (p := (k, true)) hx (lkp_mem hk) (by rw [e]; exact .inr rfl))
  have hsub : ((X ++ Y).map An.a).Sublist ((X ++ p :: Y).map An.a) := ((List.sublist_cons_self p Y).append_left X).map _
  have hsub2 : ((X ++ Y).map An.pt).Sublist ((X ++ p :: Y).map An.pt) := ((List.sublist_cons_self p Y).append_left X).map _
  have hmem : ∀ {x}, x ∈ X ++ Y → x ∈ X ++ p :: Y := fun h => mem_mid h
  -- the two decompositions
  have hdec : ∀ X' x Y', X ++ Y = X' ++ x :: Y' → ∃ X2 Y2, X ++ p :: Y = X2 ++ x :: Y2 ∧ srcs X' x.ks = (srcs X2 x.ks).filter fun y => decide (y ≠ p) := by
    intro X' x Y' h
    rcases app_split h with ⟨Z, h1, h2⟩ | ⟨Z, h1, h2⟩
    · refine ⟨X', Z ++ p :: Y, by rw [h1]; simp, ?_⟩
      exact (filter_self (fun y hy e => hp1 (by
        rw [← e, h1]
        exact List.mem_append_left _ (srcs_mem hy).1))).symm
    · refine ⟨X ++ p :: Z, Y', by rw [h2]; simp, ?_⟩
      rw [h1]
      exact srcs_gone hp1 (fun h => hp2 (by rw [h2]; exact List.mem_append_left _ h)) hc
  refine ⟨?_, I.ad.sublist hsub, I.pts.sublist hsub2, fun x hx => I.ptu x (hmem hx), I.pub, fun x hx => I.kl x (hmem hx), fun b hb => ?_, fun x hx => ?_, fun x hx => I.kn x (hmem hx), I.sn, fun k => ?_, fun X' x Y' h => ?_, fun X' x Y' h b hb => ?_, fun b hb y hy => ?_⟩
  · have h1 : (p.id, p.a) ∈ N := I.N.mem_iff.2 (List.mem_map.2 ⟨p, by simp, rfl⟩)
    have h2 := (del_perm hN h1).symm.trans I.N
    refine List.Perm.cons_inv (a := (p.id, p.a)) (h2.trans ?_)
    rw [List.map_append, List.map_cons, List.map_append]
    exact List.perm_middle
  · rw [hnd b hb]
    exact I.nxl b (hmem hb)
  · rw [hnd x hx]
    exact I.nds x (hmem hx)
  · rw [spotOf_gone hp1 (hc k) Y hp2]
    obtain ⟨h1, h2⟩ := I.sps k
    refine ⟨fun s hs => ?_, fun hs => by rw [h2 hs]; rfl⟩
    have h3 := h1 s hs
    have hw : ∀ x, (spotOf k (X ++ p :: Y)).1 = some x → x ∈ X ++ p :: Y ∧ x.how k = some true := fun x hx => spotOf_writer hx
    have hr : ∀ x, x ∈ (spotOf k (X ++ p :: Y)).2 → x ∈ X ++ p :: Y ∧ x.how k = some false := fun x hx => spotOf_reader hx
    have hia : ∀ x, x ∈ X ++ p :: Y → (x.a = p.a ↔ x = p) := fun x hx => ⟨fun e => I.ainj hx (by simp) e, fun e => by rw [e]⟩
    by_cases hk : ∃ h, (k, h) ∈ p.ks
    · obtain ⟨g1, g2⟩ := (hsp k s hs).1 hk
      refine ⟨?_, ?_⟩
      · rw [g1, h3.1]
        cases e : (spotOf k (X ++ p :: Y)).1 with
        | none => simp [Option.filter]
        | some x =>
          have := hia x (hw x e).1
          by_cases ex : x = p
          · simp [Option.filter, ex]
          · have : ¬ x.a = p.a := fun h => ex (this.1 h)
            simp [Option.filter, ex, this]
      · rw [g2, h3.2, List.filter_map]
        congr 1
        refine List.filter_congr fun x hx => ?_
        have := hia x (hr x hx).1
        simp [this]
    · have hk' : ∀ h, (k, h) ∉ p.ks := fun h hh => hk ⟨h, hh⟩
      have hpk : ∀ b, p.how k ≠ some b := fun b e => hk ⟨b, lkp_mem e⟩
      rw [(hsp k s hs).2 hk']
      refine ⟨?_, ?_⟩
      · rw [h3.1]
        cases e : (spotOf k (X ++ p :: Y)).1 with
        | none => rfl
        | some x =>
          have : x ≠ p := fun e2 => hpk true (e2 ▸ (hw x e).2)
          simp [Option.filter, this]
      · rw [h3.2]
        exact congrArg (List.map An.a) (filter_self (p := p) (fun x hx e2 => hpk false (by rw [← e2]; exact (hr x hx).2))).symm
  · obtain ⟨X2, Y2, h1, h2⟩ := hdec X' x Y' h
    have hx : x ∈ X ++ Y := by rw [h]; simp
    rw [hnd x hx, h2, len_filter_ne]
    dsimp only
    rw [I.wts X2 x Y2 h1, I.nxs X2 x Y2 h1 p (by simp)]
  · obtain ⟨X2, Y2, h1, h2⟩ := hdec X' x Y' h
    rw [hnd b hb, h2, count_filter_ne (hne hb)]
    exact I.nxs X2 x Y2 h1 b (hmem hb)
  · rw [hnd b hb] at hy
    obtain ⟨x, hx, e⟩ := I.nxm b (hmem hb) y hy
    refine ⟨x, ?_, e⟩
    have hxp : x ≠ p := fun e2 => by
      have h1 := I.nxs X p Y rfl b (hmem hb)
      rw [h0, List.count_nil, List.count_eq_zero] at h1
      exact h1 (by rw [← e2, e]; exact hy)
    rcases List.mem_append.1 hx with h | h
    · exact List.mem_append_left _ h
    · rcases List.mem_cons.1 h with h | h
      · exact absurd h hxp
      · exact List.mem_append_right _ h
end
end Go.Proofs.Ytffcnnogkpdinaa
