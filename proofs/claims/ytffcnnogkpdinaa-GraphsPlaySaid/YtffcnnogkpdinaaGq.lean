/- Graphs, the plain law of Put: edges are drawn key by key, in whatever order. -/
import Derived.Test.YtffcnnogkpdinaaGw
namespace Go.Proofs.Ytffcnnogkpdinaa
set_option linter.unusedSimpArgs false
set_option linter.unusedVariables false
theorem pair_len {q : Nat} : ∀ (l : List Nat) (m : Nat), l.Pairwise (· < ·) → (∀ x ∈ l, m ≤ x ∧ x < q) → l = [] ∨ l.length + m ≤ q
  | [], _, _, _ => .inl rfl
  | x :: r, m, hp, h => by
    right
    rw [List.pairwise_cons] at hp
    obtain ⟨h1, h2⟩ := h x (by simp)
    rcases pair_len r (x + 1) hp.2 (fun y hy => ⟨hp.1 y hy, (h y (by simp [hy])).2⟩) with e | e
    · subst e; simp; omega
    · simp; omega
section
variable {q : Nat} {L : List An} {N : List (Int64 × Nat)} {S : List (Key × Nat)} {nd : Nat → Nr} {sp : Nat → Sr}
theorem GInv.Llen (I : GInv q L N S nd sp) : L.length ≤ q := by
  rcases pair_len (q := q) (L.map An.pt) 0 I.pts (fun x hx => ⟨Nat.zero_le _, by
    obtain ⟨y, hy, rfl⟩ := List.mem_map.1 hx
    exact I.ptu y hy⟩) with e | e
  · have : L = [] := by simpa using e
    subst this; simp
  · simpa using e
theorem GInv.inj (I : GInv q L N S nd sp) {b c : An} (hb : b ∈ L) (hc : c ∈ L) (h : b.pt = c.pt) : b = c := by
  have h1 : ∀ (L : List An), (L.map An.pt).Pairwise (· < ·) → b ∈ L → c ∈ L → b = c := by
    intro L
    induction L with
    | nil => intro _ h; cases h
    | cons x r ih =>
      intro hp hb hc
      rw [List.map_cons, List.pairwise_cons] at hp
      rcases List.mem_cons.1 hb with e1 | hb <;> rcases List.mem_cons.1 hc with e2 | hc
      · rw [e1, e2]
      · have := hp.1 _ (List.mem_map.2 ⟨c, hc, rfl⟩)
        rw [← e1] at this; omega
      · have := hp.1 _ (List.mem_map.2 ⟨b, hb, rfl⟩)
        rw [← e2] at this; omega
      · exact ih hp.2 hb hc
  exact h1 L I.pts hb hc
theorem GInv.ainj (I : GInv q L N S nd sp) {b c : An} (hb : b ∈ L) (hc : c ∈ L) (h : b.a = c.a) : b = c := by
  have h1 : ∀ (L : List An), (L.map An.a).Nodup → b ∈ L → c ∈ L → b = c := by
    intro L
    induction L with
    | nil => intro _ h; cases h
    | cons x r ih =>
      intro hp hb hc
      rw [List.map_cons, List.nodup_cons] at hp
      rcases List.mem_cons.1 hb with e1 | hb <;> rcases List.mem_cons.1 hc with e2 | hc
      · rw [e1, e2]
      · exact absurd (List.mem_map.2 ⟨c, hc, by rw [← h, e1]⟩) hp.1
      · exact absurd (List.mem_map.2 ⟨b, hb, by rw [h, e2]⟩) hp.1
      · exact ih hp.2 hb hc
  exact h1 L I.ad hb hc
end
/-! ### How many edges -/
theorem spot_len (k : Key) (L : List An) : (spotOf k L).2.length ≤ L.length := by
  induction L using list_snoc_ind with
  | h0 => simp
  | h1 l x ih =>
    rw [spotOf_snoc, List.length_append]
    unfold stepS
    split
    · simp; omega
    · simp
    · simp; omega
theorem srcK_len (L : List An) (k : Key) (wr : Bool) : (srcK L k wr).length ≤ L.length + 1 := by
  unfold srcK
  have := spot_len k L
  rw [List.length_append]
  have h1 : (spotOf k L).1.toList.length ≤ 1 := by cases (spotOf k L).1 <;> simp
  split
  · omega
  · simp; omega
theorem srcs_len (L : List An) (ks : List (Key × Bool)) : (srcs L ks).length ≤ ks.length * (L.length + 1) := by
  unfold srcs
  induction ks with
  | nil => simp
  | cons p r ih =>
    rw [List.flatMap_cons, List.length_append, List.length_cons, Nat.add_mul]
    have := srcK_len L p.1 p.2
    omega
theorem srcs_perm {L : List An} {ks js : List (Key × Bool)} (h : ks.Perm js) : (srcs L ks).Perm (srcs L js) := by
  unfold srcs
  induction h with
  | nil => exact .refl _
  | cons x _ ih => rw [List.flatMap_cons, List.flatMap_cons]; exact ih.append_left _
  | swap x y l =>
    simp only [List.flatMap_cons]
    rw [← List.append_assoc, ← List.append_assoc]
    exact List.perm_append_comm.append_right _
  | trans _ _ h1 h2 => exact h1.trans h2
/-! ### The chain -/
/-- The latest one so far, and its chain. -/
def lcS (s : Int × Int64) (b : An) : Int × Int64 := if s.1 < (b.pt : Int) then ((b.pt : Int), b.ch) else s
def lc (id : Int64) (E : List An) : Int × Int64 := E.foldl lcS (-1, id)
theorem lc_snoc (id : Int64) (E : List An) (b : An) : lc id (E ++ [b]) = lcS (lc id E) b := by simp [lc]
theorem lc_lo (id : Int64) (E : List An) : -1 ≤ (lc id E).1 := by
  induction E using list_snoc_ind with
  | h0 => simp [lc]
  | h1 l x ih =>
    rw [lc_snoc]
    unfold lcS
    split
    · simp only; omega
    · exact ih
theorem lc_spec (id : Int64) (E : List An) : E = [] ∨ ∃ b ∈ E, lc id E = ((b.pt : Int), b.ch) ∧ ∀ c ∈ E, c.pt ≤ b.pt := by
  induction E using list_snoc_ind with
  | h0 => exact .inl rfl
  | h1 l x ih =>
    right
    rw [lc_snoc]
    unfold lcS
    rcases ih with rfl | ⟨b, hb, h1, h2⟩
    · refine ⟨x, by simp, ?_, fun c hc => ?_⟩
      · rw [if_pos (by simp [lc]; omega)]
      · simp at hc; rw [hc]; exact Nat.le_refl _
    · rw [h1]
      by_cases h : (b.pt : Int) < x.pt
      · rw [if_pos h]
        refine ⟨x, by simp, rfl, fun c hc => ?_⟩
        rcases List.mem_append.1 hc with hc | hc
        · have := h2 c hc; omega
        · simp at hc; rw [hc]; exact Nat.le_refl _
      · rw [if_neg h]
        refine ⟨b, List.mem_append_left _ hb, rfl, fun c hc => ?_⟩
        rcases List.mem_append.1 hc with hc | hc
        · exact h2 c hc
        · simp at hc; rw [hc]; omega
/-- Does one conflict with what asks for keys? -/
def hitB (how : Key → Option Bool) (ks : List (Key × Bool)) : Bool := ks.any fun p => match how p.1 with
  | some b => b || p.2
  | none => false
theorem hitB_iff {x : An} {ks : List (Key × Bool)} : hitB x.how ks = true ↔ ∃ p ∈ ks, hitK p.1 (x.how p.1) (some p.2) := by
  unfold hitB
  rw [List.any_eq_true]
  refine exists_congr fun p => and_congr_right fun _ => ?_
  unfold hitK
  cases x.how p.1 <;> simp
/-- The chain of one more. -/
def chainC (C : List Cn) (id : Int64) (ks : List (Key × Bool)) : Int64 := ((C.filter fun x => hitB x.how ks).getLast?.map Cn.ch).getD id
theorem last_split {α : Type} {p : α → Bool} : ∀ (L : List α), (L.filter p = [] ∧ ∀ x ∈ L, p x = false) ∨ ∃ X b Y, L = X ++ b :: Y ∧ p b = true ∧ (∀ y ∈ Y, p y = false) ∧ (L.filter p).getLast? = some b := by
  intro L
  induction L using list_snoc_ind with
  | h0 => exact .inl ⟨rfl, fun _ h => by cases h⟩
  | h1 l x ih =>
    by_cases h : p x = true
    · right
      refine ⟨l, x, [], rfl, h, (fun _ h => by cases h), ?_⟩
      rw [List.filter_append]
      simp [h]
    · have hf : p x = false := by simpa using h
      rcases ih with ⟨h1, h2⟩ | ⟨X, b, Y, rfl, hb, hY, hl⟩
      · left
        refine ⟨by rw [List.filter_append, h1]; simp [hf], fun y hy => ?_⟩
        rcases List.mem_append.1 hy with hy | hy
        · exact h2 y hy
        · simp at hy; rw [hy]; exact hf
      · right
        refine ⟨X, b, Y ++ [x], by simp, hb, fun y hy => ?_, by rw [List.filter_append]; simp [hf] at hl ⊢; exact hl⟩
        rcases List.mem_append.1 hy with hy | hy
        · exact hY y hy
        · simp at hy; rw [hy]; exact hf
theorem pairwise_mid {X Y : List An} {b c : An} (h : ((X ++ b :: Y).map An.pt).Pairwise (· < ·)) (hc : c ∈ X) : c.pt < b.pt := by
  rw [List.map_append, List.pairwise_append] at h
  exact h.2.2 c.pt (List.mem_map.2 ⟨c, hc, rfl⟩) b.pt (by simp)
section
variable {q : Nat} {L : List An} {N : List (Int64 × Nat)} {S : List (Key × Nat)} {nd : Nat → Nr} {sp : Nat → Sr}
theorem GInv.chain (I : GInv q L N S nd sp) (id : Int64) {ks : List (Key × Bool)} {E : List An} (hE : E.Perm (srcs L ks)) : (lc id E).2 = chainC (L.map An.cn) id ks := by
  unfold chainC
  rw [List.filter_map, List.getLast?_map]
  have e : ((fun x => hitB x.how ks) ∘ An.cn) = fun x : An => hitB x.how ks := rfl
  rw [e]
  rcases last_split (p := fun x : An => hitB x.how ks) L with ⟨h1, h2⟩ | ⟨X, b, Y, hL, hb, hY, hl⟩
  · rw [h1]
    have : E = [] := by
      cases hE0 : E with
      | nil => rfl
      | cons c r =>
        obtain ⟨h3, h4⟩ := srcs_mem (hE.mem_iff.1 (show c ∈ E by rw [hE0]; simp))
        have h5 := h2 c h3
        rw [hitB_iff.2 h4] at h5
        cases h5
    rw [this]
    rfl
  · rw [hl]
    obtain ⟨p, hp, hh⟩ := hitB_iff.1 hb
    have hbE : b ∈ E := by
      rw [hE.mem_iff, hL]
      refine srcs_latest hp hh (fun y hy r hr hit => ?_)
      have h5 := hY y hy
      simp only [hitB_iff.2 ⟨r, hr, hit⟩] at h5
      cases h5
    rcases lc_spec id E with h | ⟨c, hc, h1, h2⟩
    · rw [h] at hbE; cases hbE
    · have hcL := srcs_mem (hE.mem_iff.1 hc)
      have : c = b := by
        have h3 := h2 b hbE
        have h4 : c ∈ X ++ b :: Y := hL ▸ hcL.1
        rcases List.mem_append.1 h4 with h5 | h5
        · have := pairwise_mid (hL ▸ I.pts) h5
          omega
        · rcases List.mem_cons.1 h5 with h5 | h5
          · exact h5
          · have h6 := hY c h5
            simp only [hitB_iff.2 hcL.2] at h6
            cases h6
      rw [h1, this]
      rfl
end
/-! ### While edges are drawn -/
/-- The nodes, when the edges E have been drawn to the one at a. -/
structure NdP (L : List An) (nd0 nd : Nat → Nr) (a : Nat) (id : Int64) (pu kb : Nat) (ks : List (Key × Bool)) (E : List An) : Prop where
  old : ∀ b ∈ L, ∃ v, nd b.a = { nd0 b.a with nv := v, nx := (nd0 b.a).nx ++ List.replicate (E.count b) a }
  new : nd a = ⟨id, (lc id E).2, pu, E.length, .slice none 0 0, [], kb, ks⟩
/-- The spots, when the keys of D have been gone through. -/
structure SpP (L : List An) (x : An) (D : List (Key × Bool)) (S : List (Key × Nat)) (sp : Nat → Sr) : Prop where
  sn : (S.map Prod.snd).Nodup
  done : ∀ k, (∃ h, (k, h) ∈ D) → ∃ s, lkp k S = some s ∧ SpIs (sp s) (spotOf k (L ++ [x]))
  left : ∀ k, (∀ h, (k, h) ∉ D) → (∀ s, lkp k S = some s → SpIs (sp s) (spotOf k L)) ∧ (lkp k S = none → spotOf k L = (none, []))
theorem NdP.edge {L : List An} {nd0 nd : Nat → Nr} {a : Nat} {id : Int64} {pu kb : Nat} {ks : List (Key × Bool)} {E : List An} (h : NdP L nd0 nd a id pu kb ks E) {b : An} (hb : b ∈ L) (ha : ∀ c ∈ L, c.a ≠ a) (hi : ∀ c ∈ L, c.a = b.a → c = b) (v : Value) :
    NdP L nd0 (upd (upd nd b.a { nd b.a with nv := v, nx := (nd b.a).nx ++ [a] }) a { nd a with wt := E.length + 1, ch := (lc id (E ++ [b])).2 }) a id pu kb ks (E ++ [b]) where
  old c hc := by
    obtain ⟨u, hu⟩ := h.old c hc
    rw [upd_ne _ _ (ha c hc)]
    by_cases e : c.a = b.a
    · obtain rfl := hi c hc e
      refine ⟨v, ?_⟩
      rw [upd_same, hu, List.count_append]
      simp [List.append_assoc, List.replicate_succ']
    · refine ⟨u, ?_⟩
      rw [upd_ne _ _ e, hu, List.count_append]
      have : c ≠ b := fun h => e (by rw [h])
      simp [List.count_singleton, Ne.symm this]
  new := by
    rw [upd_same, h.new, List.length_append]
    rfl
theorem snoc_split {α : Type} {L X Y : List α} {x y : α} (h : L ++ [x] = X ++ y :: Y) : (Y = [] ∧ y = x ∧ X = L) ∨ ∃ Y', Y = Y' ++ [x] ∧ L = X ++ y :: Y' := by
  rcases List.eq_nil_or_concat Y with rfl | ⟨Y', z, rfl⟩
  · left
    have := List.append_inj' h rfl
    exact ⟨rfl, by simpa using this.2.symm, this.1.symm⟩
  · right
    rw [List.concat_eq_append, show X ++ y :: (Y' ++ [z]) = (X ++ y :: Y') ++ [z] by simp] at h
    have := List.append_inj' h rfl
    have h2 : x = z := by simpa using this.2
    exact ⟨Y', by rw [List.concat_eq_append, h2], this.1⟩
theorem count_none {α : Type} [BEq α] [LawfulBEq α] {l : List α} {x : α} (h : x ∉ l) : l.count x = 0 := List.count_eq_zero.2 h
/-- **Put, the plain law.** -/
theorem GInv.put {q : Nat} {L : List An} {N : List (Int64 × Nat)} {S S' : List (Key × Nat)} {nd nd' : Nat → Nr} {sp sp' : Nat → Sr} (I : GInv q L N S nd sp) (hq : q < 900) {a kb : Nat} {id : Int64} {ks D : List (Key × Bool)} (ha : ∀ c ∈ L, c.a ≠ a) (hid : lkp id N = none)
    (hk : (ks.map Prod.fst).Nodup) (hkl : ks.length ≤ 1000) (hD : D.Perm ks) (hN : NdP L nd nd' a id q kb ks (srcs L D)) (hS : SpP L ⟨a, id, chainC (L.map An.cn) id ks, q, ks⟩ D S' sp') :
    GInv (q + 1) (L ++ [⟨a, id, chainC (L.map An.cn) id ks, q, ks⟩]) (put id a N) S' nd' sp' := by
  have hperm := srcs_perm (L := L) hD
  have hlen : ∀ {l : List An} (b : An), l.count b ≤ l.length := fun b => List.count_le_length
  have hsl : (srcs L D).length ≤ 1000000 := by
    rw [hperm.length_eq]
    have h1 := srcs_len L ks
    have h2 := I.Llen
    have h3 : ks.length * (L.length + 1) ≤ 1000 * 1000 := Nat.mul_le_mul hkl (by omega)
    omega
  have hinv : ∀ b ∈ L, NdIs (nd' b.a) b ∧ (nd' b.a).wt = (nd b.a).wt ∧ (nd' b.a).nx = (nd b.a).nx ++ List.replicate ((srcs L D).count b) a := fun b hb => by
    obtain ⟨v, hv⟩ := hN.old b hb
    rw [hv]
    exact ⟨I.nds b hb, rfl, rfl⟩
  have hxa : ∀ y ∈ L, y ≠ (⟨a, id, chainC (L.map An.cn) id ks, q, ks⟩ : An) := fun y hy e => ha y hy (by rw [e])
  refine ⟨?_, ?_, ?_, ?_, by omega, ?_, ?_, ?_, ?_, hS.sn, ?_, ?_, ?_, ?_⟩
  · rw [put_none hid, List.map_append]
    exact I.N.append_right _
  · rw [List.map_append, List.nodup_append]
    refine ⟨I.ad, by simp, fun c hc d hd e => ?_⟩
    obtain ⟨y, hy, rfl⟩ := List.mem_map.1 hc
    simp at hd
    exact ha y hy (e.trans hd)
  · rw [List.map_append, List.pairwise_append]
    refine ⟨I.pts, by simp, fun c hc d hd => ?_⟩
    obtain ⟨y, hy, rfl⟩ := List.mem_map.1 hc
    simp at hd
    rw [hd]
    exact I.ptu y hy
  · intro y hy
    rcases List.mem_append.1 hy with hy | hy
    · have := I.ptu y hy; omega
    · simp at hy; rw [hy]; simp
  · intro y hy
    rcases List.mem_append.1 hy with hy | hy
    · exact I.kl y hy
    · simp at hy; rw [hy]; exact hkl
  · intro y hy
    rcases List.mem_append.1 hy with hy | hy
    · rw [(hinv y hy).2.2, List.length_append, List.length_replicate]
      have h1 := I.nxl y hy
      have h2 := hlen (l := srcs L D) y
      omega
    · simp at hy; subst hy; rw [hN.new]; simp
  · intro y hy
    rcases List.mem_append.1 hy with hy | hy
    · exact (hinv y hy).1
    · simp at hy
      subst hy
      dsimp only
      rw [hN.new]
      exact ⟨rfl, I.chain id hperm, rfl, rfl⟩
  · intro y hy
    rcases List.mem_append.1 hy with hy | hy
    · exact I.kn y hy
    · simp at hy; subst hy; exact hk
  · intro k
    by_cases hk : ∃ h, (k, h) ∈ D
    · obtain ⟨s, h1, h2⟩ := hS.done k hk
      refine ⟨fun s' h3 => ?_, fun h3 => ?_⟩
      · rw [h1] at h3; cases h3; exact h2
      · rw [h1] at h3; cases h3
    · have hk' : ∀ h, (k, h) ∉ D := fun h hh => hk ⟨h, hh⟩
      have e : spotOf k (L ++ [⟨a, id, chainC (L.map An.cn) id ks, q, ks⟩]) = spotOf k L := by
        rw [spotOf_snoc]
        unfold stepS
        have : An.how ⟨a, id, chainC (L.map An.cn) id ks, q, ks⟩ k = none := by
          unfold An.how
          dsimp only
          rw [lkp_none_iff]
          intro hm
          obtain ⟨p, hp, rfl⟩ := List.mem_map.1 hm
          exact hk' p.2 (hD.mem_iff.2 hp)
        rw [this]
      rw [e]
      exact hS.left k hk'
  · intro X y Y hL
    rcases snoc_split hL with ⟨_, rfl, rfl⟩ | ⟨Y', rfl, hL'⟩
    · dsimp only
      rw [hN.new, hperm.length_eq]
    · have hy : y ∈ L := by rw [hL']; simp
      rw [(hinv y hy).2.1]
      exact I.wts X y Y' hL'
  · intro X y Y hL b hb
    rcases List.mem_append.1 hb with hb | hb
    · rw [(hinv b hb).2.2, List.count_append, List.count_replicate]
      rcases snoc_split hL with ⟨_, rfl, rfl⟩ | ⟨Y', rfl, hL'⟩
      · have h0 : (nd b.a).nx.count a = 0 := count_none (fun hm => by
          obtain ⟨z, hz, e⟩ := I.nxm b hb _ hm
          exact ha z hz e)
        simp [h0, hperm.count_eq]
      · have hy : y ∈ L := by rw [hL']; simp
        have hne : ¬ a = y.a := fun e => ha y hy e.symm
        rw [I.nxs X y Y' hL' b hb]
        simp [hne]
    · simp at hb
      subst hb
      dsimp only
      rw [hN.new]
      dsimp only
      rw [List.count_nil]
      refine (count_none fun hm => ?_).symm
      have h1 := (srcs_mem hm).1
      rcases snoc_split hL with ⟨_, rfl, rfl⟩ | ⟨Y', rfl, hL'⟩
      · exact hxa _ h1 rfl
      · have h2 : ∀ z, z ∈ X → z ∈ L := fun z hz => by rw [hL']; exact List.mem_append_left _ hz
        exact hxa _ (h2 _ h1) rfl
  · intro b hb y hy
    rcases List.mem_append.1 hb with hb | hb
    · rw [(hinv b hb).2.2] at hy
      rcases List.mem_append.1 hy with hy | hy
      · obtain ⟨z, hz, e⟩ := I.nxm b hb y hy
        exact ⟨z, List.mem_append_left _ hz, e⟩
      · have := List.eq_of_mem_replicate hy
        exact ⟨_, List.mem_append_right _ (List.mem_singleton.2 rfl), this.symm⟩
    · simp at hb
      subst hb
      dsimp only at hy
      rw [hN.new] at hy
      cases hy
end Go.Proofs.Ytffcnnogkpdinaa
