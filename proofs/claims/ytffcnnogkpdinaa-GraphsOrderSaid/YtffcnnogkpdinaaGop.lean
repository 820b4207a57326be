/- Graphs: the plain law of GraphsOrder. -/
import Derived.Test.YtffcnnogkpdinaaGbp
namespace Go.Proofs.Ytffcnnogkpdinaa
open Go.RowKit
set_option linter.unusedSimpArgs false
set_option linter.unusedVariables false
/-- Of the first n that were put, those of 'out' are popped, in this order; K is left. -/
structure OInv (l : List Ac) (n : Nat) (out : List Nat) (K : List Rn) : Prop where
  mem : ∀ x ∈ K, ∃ j, j < n ∧ x.id = idn j ∧ x.l = rolesAt l j
  inc : K.Pairwise (fun x y => x.id.toInt < y.id.toInt)
  lt : ∀ j ∈ out, j < n
  nd : out.Nodup
  len : K.length + out.length = n
  ord : out.Pairwise fun a b => b < a → conf (rolesAt l b) (rolesAt l a) = false
  sep : ∀ a ∈ out, ∀ x ∈ K, ∀ j, j < n → x.id = idn j → j ≠ a ∧ (j < a → conf (rolesAt l j) (rolesAt l a) = false)
theorem KL_inc (l : List Ac) : ∀ n, n ≤ 1000 → (KL l n).Pairwise (fun x y => x.id.toInt < y.id.toInt)
  | 0, _ => List.Pairwise.nil
  | n + 1, hn => by
    rw [KL_succ, List.pairwise_append]
    refine ⟨KL_inc l n (by omega), List.pairwise_singleton _ _, fun x hx y hy => ?_⟩
    rcases List.mem_singleton.1 hy with rfl
    obtain ⟨j, hj, h1, _⟩ := KL_mem l n hx
    rw [h1, idn_toInt (by omega), idn_toInt (by omega)]
    omega
theorem OInv.start (l : List Ac) {n : Nat} (hn : n ≤ 1000) : OInv l n [] (KL l n) where
  mem x hx := by
    obtain ⟨j, h1, h2, h3, _⟩ := KL_mem l n hx
    exact ⟨j, h1, h2, h3⟩
  inc := KL_inc l n hn
  lt j hj := by cases hj
  nd := List.nodup_nil
  len := by rw [KL_len]; rfl
  ord := List.Pairwise.nil
  sep a ha := by cases ha
theorem OInv.pop {l : List Ac} {n : Nat} {out : List Nat} {X Y : List Rn} {x : Rn} {j : Nat} (hn : n ≤ 1000) (h : OInv l n out (X ++ x :: Y)) (hb : X.any (fun y => conf y.l x.l) = false) (hj : j < n) (hx : x.id = idn j) : OInv l n (out ++ [j]) (X ++ Y) := by
  have hsub : ∀ y ∈ X ++ Y, y ∈ X ++ x :: Y := fun y hy => by
    rcases List.mem_append.1 hy with h | h
    · exact List.mem_append_left _ h
    · exact List.mem_append_right _ (List.mem_cons_of_mem _ h)
  have hxm : x ∈ X ++ x :: Y := by simp
  have hxl : x.l = rolesAt l j := by
    obtain ⟨i, hi, h1, h2⟩ := h.mem x hxm
    have := idn_inj (by omega) (by omega) (h1.symm.trans hx)
    rw [h2, this]
  have hinc := h.inc
  rw [List.pairwise_append, List.pairwise_cons] at hinc
  obtain ⟨p1, ⟨p2, p3⟩, p4⟩ := hinc
  refine ⟨fun y hy => h.mem y (hsub y hy), ?_, ?_, ?_, ?_, ?_, ?_⟩
  · rw [List.pairwise_append]
    exact ⟨p1, p3, fun a ha b hb => p4 a ha b (List.mem_cons_of_mem _ hb)⟩
  · intro i hi
    rcases List.mem_append.1 hi with hi | hi
    · exact h.lt i hi
    · rcases List.mem_singleton.1 hi with rfl; exact hj
  · rw [List.nodup_append]
    refine ⟨h.nd, by simp, fun a ha b hb => ?_⟩
    rcases List.mem_singleton.1 hb with rfl
    exact fun e => (h.sep a ha x hxm b hj hx).1 e.symm
  · have := h.len
    simp only [List.length_append, List.length_cons, List.length_nil] at *
    omega
  · rw [List.pairwise_append]
    refine ⟨h.ord, List.pairwise_singleton _ _, fun a ha b hb => ?_⟩
    rcases List.mem_singleton.1 hb with rfl
    exact (h.sep a ha x hxm b hj hx).2
  · intro a ha y hy i hi hyi
    rcases List.mem_append.1 ha with ha | ha
    · exact h.sep a ha y (hsub y hy) i hi hyi
    · rcases List.mem_singleton.1 ha with rfl
      have hyl : y.l = rolesAt l i := by
        obtain ⟨i', hi', h1, h2⟩ := h.mem y (hsub y hy)
        have := idn_inj (by omega) (by omega) (h1.symm.trans hyi)
        rw [h2, this]
      rcases List.mem_append.1 hy with hy | hy
      · have h1 := p4 y hy x (by simp)
        rw [hyi, hx, idn_toInt (by omega), idn_toInt (by omega)] at h1
        refine ⟨by omega, fun _ => ?_⟩
        have h2 := List.any_eq_false.1 hb y hy
        rw [← hyl, ← hxl]
        exact Bool.eq_false_iff.2 h2
      · have h1 := p2 y hy
        rw [hyi, hx, idn_toInt (by omega), idn_toInt (by omega)] at h1
        exact ⟨by omega, fun h => by omega⟩
theorem ready_ne {K : List Rn} (h : K ≠ []) : 0 < (readyR K).length := by
  cases K with
  | nil => exact absurd rfl h
  | cons x K =>
    unfold readyR readyAt
    rw [if_neg (by simp)]
    simp
theorem readyAt_pair : ∀ (K pre : List Rn), (readyAt pre K).Pairwise fun a b => ∃ x ∈ K, ∃ y ∈ K, x.id = a ∧ y.id = b ∧ conf x.l y.l = false
  | [], pre => List.Pairwise.nil
  | x :: K, pre => by
    unfold readyAt
    rw [List.pairwise_append]
    refine ⟨?_, ?_, ?_⟩
    · split
      · exact List.Pairwise.nil
      · exact List.pairwise_singleton _ _
    · refine (readyAt_pair K (pre ++ [x])).imp ?_
      rintro a b ⟨y, hy, z, hz, h⟩
      exact ⟨y, List.mem_cons_of_mem _ hy, z, List.mem_cons_of_mem _ hz, h⟩
    · intro a ha b hb
      by_cases hc : pre.any (fun y => conf y.l x.l) = true
      · rw [if_pos hc] at ha; cases ha
      · rw [if_neg hc] at ha
        obtain ⟨X, y, Y, rfl, h2, h3⟩ := readyAt_at K (pre ++ [x]) hb
        refine ⟨x, by simp, y, by simp, (List.mem_singleton.1 ha).symm, h2, ?_⟩
        exact Bool.eq_false_iff.2 (List.any_eq_false.1 h3 x (by simp))
theorem ready_in {K : List Rn} {id : Int64} (h : id ∈ readyR K) : ∃ x ∈ K, x.id = id := by
  obtain ⟨X, x, Y, rfl, h1, _⟩ := ready_at h
  exact ⟨x, by simp, h1⟩
theorem OInv.at {l : List Ac} {n : Nat} {out : List Nat} {K : List Rn} (h : OInv l n out K) {id : Int64} (hi : id ∈ readyR K) : ∃ j, j < n ∧ id = idn j := by
  obtain ⟨x, hx, h1⟩ := ready_in hi
  obtain ⟨j, hj, h2, _⟩ := h.mem x hx
  exact ⟨j, hj, h1.symm.trans h2⟩
theorem OInv.pair {l : List Ac} {n : Nat} {out : List Nat} {K : List Rn} (hn : n ≤ 1000) (h : OInv l n out K) {i k ja jb : Nat} (hk : k < i) (ha : (readyR K)[i]? = some (idn ja)) (hb : (readyR K)[k]? = some (idn jb)) (hja : ja < n) (hjb : jb < n) :
    conf (rolesAt l ja) (rolesAt l jb) = false := by
  have hp := readyAt_pair K []
  obtain ⟨hi, ea⟩ := List.getElem?_eq_some_iff.1 ha
  obtain ⟨hk', eb⟩ := List.getElem?_eq_some_iff.1 hb
  obtain ⟨x, hx, y, hy, h1, h2, h3⟩ := (List.pairwise_iff_getElem.1 hp) k i hk' hi hk
  have eb' : (readyAt [] K)[k] = idn jb := eb
  have ea' : (readyAt [] K)[i] = idn ja := ea
  obtain ⟨j1, q1, q2, q3⟩ := h.mem x hx
  obtain ⟨j2, q4, q5, q6⟩ := h.mem y hy
  have e1 : j1 = jb := idn_inj (by omega) (by omega) (q2.symm.trans (h1.trans eb'))
  have e2 : j2 = ja := idn_inj (by omega) (by omega) (q5.symm.trans (h2.trans ea'))
  rw [conf_symm, ← e1, ← e2, ← q3, ← q6]
  exact h3
theorem OInv.popAt {l : List Ac} {n : Nat} {out : List Nat} {K : List Rn} (hn : n ≤ 1000) (h : OInv l n out K) {j : Nat} (hj : j < n) (hi : idn j ∈ readyR K) : ∃ X x Y, K = X ++ x :: Y ∧ x.id = idn j ∧ X.any (fun y => conf y.l x.l) = false ∧ OInv l n (out ++ [j]) (X ++ Y) := by
  obtain ⟨X, x, Y, rfl, h1, h2⟩ := ready_at hi
  exact ⟨X, x, Y, rfl, h1, h2, h.pop hn h2 hj h1⟩
theorem OInv.done {l : List Ac} {n : Nat} {out : List Nat} (h : OInv l n out []) {i k a b : Nat} (hk : k < i) (ha : out[i]? = some a) (hb : out[k]? = some b) : a < n ∧ b < n ∧ a ≠ b ∧ (a < b → conf (rolesAt l a) (rolesAt l b) = false) := by
  obtain ⟨hi, ea⟩ := List.getElem?_eq_some_iff.1 ha
  obtain ⟨hk', eb⟩ := List.getElem?_eq_some_iff.1 hb
  have h1 := (List.pairwise_iff_getElem.1 h.ord) k i hk' hi hk
  have h2 := (List.pairwise_iff_getElem.1 h.nd) k i hk' hi hk
  rw [ea, eb] at h1 h2
  exact ⟨h.lt a (List.mem_of_getElem? ha), h.lt b (List.mem_of_getElem? hb), fun e => h2 e.symm, h1⟩
end Go.Proofs.Ytffcnnogkpdinaa
