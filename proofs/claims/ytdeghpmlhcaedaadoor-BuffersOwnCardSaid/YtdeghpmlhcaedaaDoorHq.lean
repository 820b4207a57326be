/- The plain law of a binary heap: what a step up, a step down keep. -/
import Derived.Test.YtdeghpmlhcaedaaDoorRk
namespace Go.Proofs.YtdeghpmlhcaedaaDoor
set_option linter.unusedVariables false
set_option linter.unusedSimpArgs false
/-- Two elements change places. -/
def swapL {α : Type} (L : List α) (i j : Nat) : List α := match L[i]?, L[j]? with
  | some a, some b => (L.set i b).set j a
  | _, _ => L
section
variable {α : Type} {L : List α}
theorem swapL_at {i j : Nat} {a b : α} (hi : L[i]? = some a) (hj : L[j]? = some b) : swapL L i j = (L.set i b).set j a := by simp [swapL, hi, hj]
@[simp] theorem swapL_length (i j : Nat) : (swapL L i j).length = L.length := by
  unfold swapL
  split <;> simp
theorem swapL_get {i j : Nat} (hi : i < L.length) (hj : j < L.length) (c : Nat) : (swapL L i j)[c]? = if c = j then L[i]? else if c = i then L[j]? else L[c]? := by
  rw [swapL_at (List.getElem?_eq_getElem hi) (List.getElem?_eq_getElem hj)]
  simp only [List.getElem?_set, List.length_set]
  grind
theorem swapL_perm {i j : Nat} (hi : i < L.length) (hj : j < L.length) : (swapL L i j).Perm L := by
  rw [swapL_at (List.getElem?_eq_getElem hi) (List.getElem?_eq_getElem hj)]
  exact List.set_set_perm hi hj
end
section
variable {lt : Nat → Nat → Bool} {L : List Nat}
/-- No child goes ahead of its parent, but where P says so. -/
def OkAt (lt : Nat → Nat → Bool) (L : List Nat) (c : Nat) : Prop := ∀ a b, L[c]? = some a → L[(c - 1) / 2]? = some b → lt a b = false
/-- A child of i does not go ahead of i's parent. -/
def Grand (lt : Nat → Nat → Bool) (L : List Nat) (i c : Nat) : Prop := ∀ a b, L[c]? = some a → L[(i - 1) / 2]? = some b → lt a b = false
def HeapOk (lt : Nat → Nat → Bool) (n : Nat) (L : List Nat) : Prop := ∀ c, 0 < c → c < n → OkAt lt L c
def UpOk (lt : Nat → Nat → Bool) (n : Nat) (L : List Nat) (j : Nat) : Prop := ∀ c, 0 < c → c < n → (c ≠ j → OkAt lt L c) ∧ ((c - 1) / 2 = j → 0 < j → Grand lt L j c)
def SiftOk (lt : Nat → Nat → Bool) (n : Nat) (L : List Nat) (i : Nat) : Prop := ∀ c, 0 < c → c < n → (c ≠ i → (c - 1) / 2 ≠ i → OkAt lt L c) ∧ ((c - 1) / 2 = i → 0 < i → Grand lt L i c)
def DownOk (lt : Nat → Nat → Bool) (n : Nat) (L : List Nat) (i : Nat) : Prop := ∀ c, 0 < c → c < n → ((c - 1) / 2 ≠ i → OkAt lt L c) ∧ ((c - 1) / 2 = i → 0 < i → Grand lt L i c)
structure Weak (lt : Nat → Nat → Bool) : Prop where
  asymm : ∀ a b, lt a b = true → lt b a = false
  neg : ∀ a b c, lt a b = false → lt b c = false → lt a c = false
theorem HeapOk.up {n : Nat} {L : List Nat} (h : HeapOk lt n L) (x : Nat) (hn : n = L.length) (hw : Weak lt) : UpOk lt (n + 1) (L ++ [x]) n := by
  intro c hc hcn
  refine ⟨fun hne a b ha hb => ?_, fun e => by omega⟩
  rw [List.getElem?_append_left (by omega)] at ha hb
  exact h c hc (by omega) a b ha hb
theorem UpOk.stop {n j : Nat} (h : UpOk lt n L j) (hj : j = 0 ∨ OkAt lt L j) : HeapOk lt n L := by
  intro c hc hcn
  by_cases e : c = j
  · subst e
    rcases hj with hj | hj
    · omega
    · exact hj
  · exact (h c hc hcn).1 e
theorem UpOk.step {n j : Nat} (hw : Weak lt) (h : UpOk lt n L j) (hn : n ≤ L.length) (hj : 0 < j) (hjn : j < n) {a b : Nat} (ha : L[j]? = some a) (hb : L[(j - 1) / 2]? = some b) (hlt : lt a b = true) :
    UpOk lt n (swapL L ((j - 1) / 2) j) ((j - 1) / 2) := by
  have hi : (j - 1) / 2 < j := by omega
  generalize hie : (j - 1) / 2 = i at *
  have hget := swapL_get (L := L) (i := i) (j := j) (by omega) (by omega)
  intro c hc hcn
  have hpc : (c - 1) / 2 < c := by omega
  refine ⟨fun hne x y hx hy => ?_, fun e hi0 x y hx hy => ?_⟩
  · rw [hget] at hx hy
    by_cases h1 : c = j
    · subst h1
      rw [if_pos rfl, hb] at hx
      rw [hie, if_neg (by omega), if_pos rfl, ha] at hy
      cases hx; cases hy
      exact hw.asymm _ _ hlt
    · rw [if_neg h1, if_neg hne] at hx
      by_cases h2 : (c - 1) / 2 = j
      · rw [if_pos h2, hb] at hy
        cases hy
        have := (h c hc hcn).2 h2 hj x b hx (by rw [hie]; exact hb)
        exact this
      · rw [if_neg h2] at hy
        by_cases h3 : (c - 1) / 2 = i
        · rw [if_pos h3, ha] at hy
          cases hy
          have h4 := (h c hc hcn).1 h1 x b hx (by rw [h3]; exact hb)
          exact hw.neg _ _ _ h4 (hw.asymm _ _ hlt)
        · rw [if_neg h3] at hy
          exact (h c hc hcn).1 h1 x y hx hy
  · rw [hget] at hx hy
    have h5 : (i - 1) / 2 < i := by omega
    rw [if_neg (by omega), if_neg (by omega)] at hy
    by_cases h1 : c = j
    · subst h1
      rw [if_pos rfl, hb] at hx
      cases hx
      exact (h i hi0 (by omega)).1 (by omega) b y hb hy
    · rw [if_neg h1, if_neg (by omega)] at hx
      have h4 := (h c hc hcn).1 h1 x b hx (by rw [e]; exact hb)
      exact hw.neg _ _ _ h4 ((h i hi0 (by omega)).1 (by omega) b y hb hy)
/-- Of a child that is first of both. -/
def First (lt : Nat → Nat → Bool) (n : Nat) (L : List Nat) (i j : Nat) : Prop := (j = 2 * i + 1 ∨ j = 2 * i + 2) ∧ j < n ∧ ∀ c x a, c < n → (c = 2 * i + 1 ∨ c = 2 * i + 2) → L[c]? = some x → L[j]? = some a → lt x a = false
theorem SiftOk.step {n i j : Nat} (hw : Weak lt) (h : SiftOk lt n L i) (hn : n ≤ L.length) (hf : First lt n L i j) {a b : Nat} (ha : L[j]? = some a) (hb : L[i]? = some b) (hlt : lt a b = true) : DownOk lt n (swapL L i j) j := by
  obtain ⟨hj, hjn, hfirst⟩ := hf
  have hij : i < j := by omega
  have hpj : (j - 1) / 2 = i := by omega
  have hget := swapL_get (L := L) (i := i) (j := j) (by omega) (by omega)
  intro c hc hcn
  have hpc : (c - 1) / 2 < c := by omega
  refine ⟨fun hne x y hx hy => ?_, fun e hj0 x y hx hy => ?_⟩
  · rw [hget] at hx hy
    rw [if_neg hne] at hy
    by_cases h1 : c = j
    · subst h1
      rw [if_pos rfl, hb] at hx
      rw [if_pos hpj, ha] at hy
      cases hx; cases hy
      exact hw.asymm _ _ hlt
    · rw [if_neg h1] at hx
      by_cases h2 : c = i
      · subst h2
        rw [if_pos rfl, ha] at hx
        rw [if_neg (by omega)] at hy
        cases hx
        exact (h j (by omega) hjn).2 hpj hc a y ha hy
      · rw [if_neg h2] at hx
        by_cases h3 : (c - 1) / 2 = i
        · rw [if_pos h3, ha] at hy
          cases hy
          exact hfirst c x a hcn (by omega) hx ha
        · rw [if_neg h3] at hy
          exact (h c hc hcn).1 h2 h3 x y hx hy
  · rw [hget] at hx hy
    rw [if_neg (by omega), if_neg (by omega)] at hx
    rw [hpj, if_neg (by omega), if_pos rfl, ha] at hy
    cases hy
    exact (h c hc hcn).1 (by omega) (by omega) x a hx (by rw [e]; exact ha)
theorem DownOk.sift {n i : Nat} (h : DownOk lt n L i) : SiftOk lt n L i := fun c hc hcn => ⟨fun _ h2 => (h c hc hcn).1 h2, (h c hc hcn).2⟩
/-- No child of i goes ahead of it. -/
def Still (lt : Nat → Nat → Bool) (n : Nat) (L : List Nat) (i : Nat) : Prop := ∀ c, 0 < c → c < n → (c - 1) / 2 = i → OkAt lt L c
theorem DownOk.stop {n i : Nat} (h : DownOk lt n L i) (hs : Still lt n L i) : HeapOk lt n L := by
  intro c hc hcn
  by_cases e : (c - 1) / 2 = i
  · exact hs c hc hcn e
  · exact (h c hc hcn).1 e
theorem SiftOk.stop {n i : Nat} (h : SiftOk lt n L i) (hs : Still lt n L i) : UpOk lt n L i := by
  intro c hc hcn
  refine ⟨fun hne => ?_, (h c hc hcn).2⟩
  by_cases e : (c - 1) / 2 = i
  · exact hs c hc hcn e
  · exact (h c hc hcn).1 hne e
theorem Still.of_first {n i j : Nat} (hw : Weak lt) (hf : First lt n L i j) {a b : Nat} (ha : L[j]? = some a) (hb : L[i]? = some b) (hlt : lt a b = false) : Still lt n L i := by
  intro c hc hcn hp x y hx hy
  rw [hp, hb] at hy
  cases hy
  exact hw.neg _ _ _ (hf.2.2 c x a hcn (by omega) hx ha) hlt
theorem Still.none {n i : Nat} (h : n ≤ 2 * i + 1) : Still lt n L i := by
  intro c hc hcn hp
  omega
theorem HeapOk.sift {n i : Nat} {L : List Nat} (hw : Weak lt) (h : HeapOk lt (n + 1) L) (hL : L.length = n + 1) (hi : i < n) : SiftOk lt n (swapL L i n) i := by
  have hget := swapL_get (L := L) (i := i) (j := n) (by omega) (by omega)
  intro c hc hcn
  refine ⟨fun h1 h2 x y hx hy => ?_, fun e hi0 x y hx hy => ?_⟩
  · rw [hget] at hx hy
    rw [if_neg (by omega), if_neg h1] at hx
    rw [if_neg (by omega), if_neg h2] at hy
    exact h c hc (by omega) x y hx hy
  · rw [hget] at hx hy
    rw [if_neg (by omega), if_neg (by omega)] at hx
    rw [if_neg (by omega), if_neg (by omega)] at hy
    have h1 := h c hc (by omega) x (L[i]'(by omega)) hx (by rw [e, List.getElem?_eq_getElem (by omega)])
    have h2 := h i hi0 (by omega) (L[i]'(by omega)) y (by rw [List.getElem?_eq_getElem (by omega)]) hy
    exact hw.neg _ _ _ h1 h2
/-- The root goes ahead of all, or is none of those that go behind. -/
theorem HeapOk.root {n : Nat} {L : List Nat} (hw : Weak lt) (h : HeapOk lt n L) (hn : n ≤ L.length) (hi : ∀ a, lt a a = false) {r : Nat} (hr : L[0]? = some r) : ∀ c a, c < n → L[c]? = some a → lt a r = false := by
  intro c
  induction c using Nat.strongRecOn with
  | ind c ih =>
    intro a hc ha
    by_cases h0 : c = 0
    · subst h0
      rw [hr] at ha
      cases ha
      exact hi _
    · have hp : (c - 1) / 2 < c := by omega
      have hpn : (c - 1) / 2 < L.length := by omega
      exact hw.neg _ _ _ (h c (by omega) hc a _ ha (List.getElem?_eq_getElem hpn)) (ih _ hp _ (by omega) (List.getElem?_eq_getElem hpn))
theorem HeapOk.mono {n m : Nat} (h : HeapOk lt n L) (hm : m ≤ n) : HeapOk lt m L := fun c hc hcm => h c hc (by omega)
theorem HeapOk.take {n : Nat} (h : HeapOk lt n L) : HeapOk lt n (L.take n) := by
  intro c hc hcn a b ha hb
  rw [List.getElem?_take, if_pos hcn] at ha
  rw [List.getElem?_take, if_pos (by omega)] at hb
  exact h c hc hcn a b ha hb
end
end Go.Proofs.YtdeghpmlhcaedaaDoor
