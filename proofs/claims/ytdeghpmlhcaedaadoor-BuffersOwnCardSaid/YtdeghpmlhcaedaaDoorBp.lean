/- Buffers: plain facts of the laws: items that came in this order, and who of them waits. -/
import Derived.Test.YtdeghpmlhcaedaaDoorLv
namespace Go.Proofs.YtdeghpmlhcaedaaDoor
open Go.RowKit
set_option linter.unusedSimpArgs false
set_option linter.unusedVariables false
theorem nlt_tr {a b c : Nd} (h1 : nlt a b = true) (h2 : nlt b c = true) : nlt a c = true := by
  cases h : nlt a c with
  | true => rfl
  | false =>
    have := nlt_negtrans h (nlt_asymm h2)
    rw [h1] at this
    cases this
theorem srt_ins (x : Nd) : ∀ D : List Nd, Srt D → (∀ y ∈ D, y ≠ x) → ∃ E, E.Perm (x :: D) ∧ Srt E
  | [], _, _ => ⟨[x], .refl _, List.pairwise_singleton _ _⟩
  | y :: r, hS, hn => by
    cases h : nlt x y with
    | true =>
      refine ⟨x :: y :: r, .refl _, List.pairwise_cons.2 ⟨fun z hz => ?_, hS⟩⟩
      rcases List.mem_cons.1 hz with rfl | hz
      · exact h
      · exact nlt_tr h (List.rel_of_pairwise_cons hS hz)
    | false =>
      obtain ⟨E, hE, hES⟩ := srt_ins x r (List.Pairwise.of_cons hS) (fun z hz => hn z (List.mem_cons_of_mem _ hz))
      have hyx : nlt y x = true := by
        cases h2 : nlt y x with
        | true => rfl
        | false => exact absurd (nlt_total h2 h) (hn y (List.mem_cons_self ..))
      refine ⟨y :: E, (hE.cons y).trans (.swap _ _ _), List.pairwise_cons.2 ⟨fun z hz => ?_, hES⟩⟩
      rcases List.mem_cons.1 (hE.mem_iff.1 hz) with rfl | hz
      · exact hyx
      · exact List.rel_of_pairwise_cons hS hz
theorem srt_exists : ∀ C : List Nd, C.Nodup → ∃ D, D.Perm C ∧ Srt D
  | [], _ => ⟨[], .refl _, .nil⟩
  | x :: r, h => by
    obtain ⟨D, hD, hS⟩ := srt_exists r (List.nodup_cons.1 h).2
    obtain ⟨E, hE, hES⟩ := srt_ins x D hS (fun y hy e => (List.nodup_cons.1 h).1 (by rw [← e]; exact hD.mem_iff.1 hy))
    exact ⟨E, hE.trans (hD.cons x), hES⟩
def itm (l : List UInt64) (f : Nat → Nat) (i : Nat) : Option It := (l[i]?).map fun p => ⟨UInt64.ofNat i, rdy p 0, f i, false⟩
def rS (N : Nat) (l : List UInt64) (f : Nat → Nat) : List (Option It) := (List.range N).map (itm l f)
def nodeL (l : List UInt64) (i : Nat) : Nd := ⟨⟨l.getD i 0, UInt64.ofNat i⟩, idn i⟩
section
variable {N : Nat} {l : List UInt64} {f : Nat → Nat}
theorem rS_len : (rS N l f).length = N := by simp [rS]
theorem rS_at {i : Nat} (h : i < N) : (rS N l f)[i]? = some (itm l f i) := by
  unfold rS
  rw [List.getElem?_map, List.getElem?_range h]
  rfl
theorem rS_none {i : Nat} (h : i < N) (hl : l.length ≤ i) : (rS N l f)[i]? = some none := by
  rw [rS_at h]
  unfold itm
  rw [List.getElem?_eq_none hl]
  rfl
theorem itm_some {i : Nat} (h : i < l.length) : itm l f i = some ⟨UInt64.ofNat i, rdy (l.getD i 0) 0, f i, false⟩ := by
  unfold itm
  rw [List.getElem?_eq_getElem h, List.getD_eq_getElem?_getD, List.getElem?_eq_getElem h]
  rfl
theorem rS_some {i : Nat} (h : i < N) (hl : i < l.length) : (rS N l f)[i]? = some (some ⟨UInt64.ofNat i, rdy (l.getD i 0) 0, f i, false⟩) := by rw [rS_at h, itm_some hl]
theorem node_itm {k : Nat} : nodeOf k (itm l f k) = if decide (k < l.length) && (f k == 0) then [nodeL l k] else [] := by
  by_cases h : k < l.length
  · rw [itm_some h]
    unfold nodeOf
    by_cases h0 : f k = 0
    · simp [h, h0, nodeL, It.rk, rdy_prio]
    · simp [h, h0]
  · unfold itm
    rw [List.getElem?_eq_none (by omega)]
    simp [nodeOf, h]
theorem wtg_range : ∀ (n k : Nat), wtg k ((List.range' k n).map (itm l f)) = ((List.range' k n).filter fun i => decide (i < l.length) && (f i == 0)).map (nodeL l)
  | 0, k => rfl
  | n + 1, k => by
    rw [List.range'_succ, List.map_cons, List.filter_cons]
    show nodeOf k (itm l f k) ++ wtg (k + 1) ((List.range' (k + 1) n).map (itm l f)) = _
    rw [wtg_range n (k + 1), node_itm]
    by_cases h : (decide (k < l.length) && (f k == 0)) = true
    · rw [if_pos h, if_pos h]
      rfl
    · rw [if_neg h, if_neg h]
      rfl
theorem wtg_rS : wtg 0 (rS N l f) = ((List.range N).filter fun i => decide (i < l.length) && (f i == 0)).map (nodeL l) := by
  unfold rS
  rw [List.range_eq_range']
  exact wtg_range N 0
theorem rS_set {i v : Nat} (h : i < N) (hl : i < l.length) : (rS N l f).set i (some ⟨UInt64.ofNat i, rdy (l.getD i 0) 0, v, false⟩) = rS N l (fun j => if j = i then v else f j) := by
  apply List.ext_getElem?
  intro j
  by_cases hj : j < N
  · by_cases hi : j = i
    · subst hi
      rw [List.getElem?_set_self (by rw [rS_len]; exact h), rS_at h, itm_some hl, if_pos rfl]
    · rw [List.getElem?_set_ne (fun e => hi e.symm), rS_at hj, rS_at hj]
      unfold itm
      simp only [if_neg hi]
  · rw [List.getElem?_eq_none (by rw [List.length_set, rS_len]; omega), List.getElem?_eq_none (by rw [rS_len]; omega)]
theorem rS_add {k : Nat} (h : k < N) (hl : k < l.length) (h0 : f k = 0) : (rS N (l.take k) f).set k (some ⟨UInt64.ofNat k, rdy (l.getD k 0) 0, 0, false⟩) = rS N (l.take (k + 1)) f := by
  apply List.ext_getElem?
  intro j
  by_cases hj : j < N
  · by_cases hi : j = k
    · subst hi
      rw [List.getElem?_set_self (by rw [rS_len]; exact h), rS_at h]
      unfold itm
      rw [List.getElem?_take, if_pos (by omega), List.getElem?_eq_getElem hl, List.getD_eq_getElem?_getD, List.getElem?_eq_getElem hl, h0]
      rfl
    · rw [List.getElem?_set_ne (fun e => hi e.symm), rS_at hj, rS_at hj]
      unfold itm
      rw [List.getElem?_take, List.getElem?_take]
      by_cases h1 : j < k
      · rw [if_pos h1, if_pos (by omega)]
      · rw [if_neg h1, if_neg (by omega)]
  · rw [List.getElem?_eq_none (by rw [List.length_set, rS_len]; omega), List.getElem?_eq_none (by rw [rS_len]; omega)]
theorem rS_nil : rS N [] f = List.replicate N none := by
  apply List.ext_getElem?
  intro j
  by_cases hj : j < N
  · rw [rS_none hj (Nat.zero_le _), List.getElem?_replicate, if_pos hj]
  · rw [List.getElem?_eq_none (by rw [rS_len]; omega), List.getElem?_eq_none (by rw [List.length_replicate]; omega)]
theorem rS_free {k : Nat} (h : k < N) (hl : k ≤ l.length) : FreeS (rS N (l.take k) f) k := by
  refine ⟨rS_none h (by rw [List.length_take]; omega), fun i hi => ?_⟩
  exact ⟨_, rS_some (by omega) (by rw [List.length_take]; omega)⟩
theorem rS_congr {g : Nat → Nat} (h : ∀ i, i < l.length → f i = g i) : rS N l f = rS N l g := by
  unfold rS
  refine List.map_congr_left (fun i _ => ?_)
  by_cases hi : i < l.length
  · rw [itm_some hi, itm_some hi, h i hi]
  · unfold itm
    rw [List.getElem?_eq_none (by omega)]
    rfl
theorem wtg_K {K : List Nat} (hK : K.Nodup) (h : ∀ j, j ∈ K ↔ j < N ∧ j < l.length ∧ f j = 0) : (K.map (nodeL l)).Perm (wtg 0 (rS N l f)) := by
  rw [wtg_rS]
  refine List.Perm.map _ ((List.perm_ext_iff_of_nodup hK (List.Nodup.sublist List.filter_sublist List.nodup_range)).2 (fun j => ?_))
  rw [h j]
  simp [and_assoc]
theorem count_lt (n : Nat) : ∀ N : Nat, (List.range N).countP (fun i => decide (i < n)) = min n N
  | 0 => by simp
  | N + 1 => by
    rw [List.range_succ, List.countP_append, count_lt n N]
    by_cases h : N < n
    · simp [h]; omega
    · simp [h]; omega
theorem rS_count (h : l.length ≤ N) : (rS N l f).countP Option.isSome = l.length := by
  unfold rS
  rw [List.countP_map, ← Nat.min_eq_left h, ← count_lt l.length N]
  refine List.countP_congr (fun i _ => ?_)
  by_cases hi : i < l.length
  · simp [itm_some hi, hi]
  · unfold itm
    rw [Function.comp, List.getElem?_eq_none (by omega)]
    simp [hi]
theorem nodeL_id {i : Nat} (h : i < 9223372036854775808) : (nodeL l i).id.toInt.toNat = i := by
  show (idn i).toInt.toNat = i
  rw [idn_toInt h]
  rfl
/-- All that came, in rank order. -/
theorem exists_K (N : Nat) (hN : N ≤ 4096) (l : List UInt64) (hl : l.length ≤ N) : ∃ K : List Nat, K.Perm (List.range l.length) ∧ Srt (K.map (nodeL l)) := by
  have hnd : ((List.range l.length).map (nodeL l)).Nodup := by
    unfold List.Nodup
    rw [List.pairwise_map]
    refine List.Pairwise.imp_of_mem (fun {a b} ha hb hne e => hne ?_) List.nodup_range
    have h1 := nodeL_id (l := l) (i := a) (by have := List.mem_range.1 ha; omega)
    have h2 := nodeL_id (l := l) (i := b) (by have := List.mem_range.1 hb; omega)
    rw [e] at h1
    exact h1.symm.trans h2
  obtain ⟨D, hD, hS⟩ := srt_exists _ hnd
  refine ⟨D.map (fun nd => nd.id.toInt.toNat), ?_, ?_⟩
  · have := hD.map (fun nd => nd.id.toInt.toNat)
    rw [List.map_map] at this
    refine this.trans (.of_eq ?_)
    conv => rhs; rw [← List.map_id (List.range l.length)]
    refine List.map_congr_left (fun i hi => nodeL_id (by have := List.mem_range.1 hi; omega))
  · rw [List.map_map]
    have : D.map (nodeL l ∘ fun nd => nd.id.toInt.toNat) = D := by
      conv => rhs; rw [← List.map_id D]
      refine List.map_congr_left (fun nd hnd => ?_)
      obtain ⟨i, hi, rfl⟩ := List.mem_map.1 (hD.mem_iff.1 hnd)
      show nodeL l ((nodeL l i).id.toInt.toNat) = _
      rw [nodeL_id (by have := List.mem_range.1 hi; omega)]
      rfl
    rw [this]
    exact hS
theorem back_inv {n k a i : Nat} (hk : k < n) (hi : i < n) : (n - 1 - i + a) % n = k ↔ i = (n - 1 - k + a) % n := by
  have key : ∀ p q : Nat, p < n → q < n → q = (n - 1 - p + a) % n → (n - 1 - q + a) % n = p := by
    intro p q hp hq e
    have h1 := Nat.div_add_mod (n - 1 - p + a) n
    rw [← e] at h1
    have h2 : n - 1 - q + a = p + n * ((n - 1 - p + a) / n) := by omega
    rw [h2, Nat.add_mul_mod_self_left, Nat.mod_eq_of_lt hp]
  exact ⟨fun e => (key i k hi hk e.symm).symm, fun e => key k i hk hi e⟩
end
def boc (b : Bool) : Array Value := #[.bool b]
def fz : Nat → Nat := fun _ => 0
theorem LS.modX {w0 w w' : World} {b : Nat} {S : List (Option It)} {T X : Nat → Prop} (H : LS w0 b S T w) (hm : Mod X w w') (hX : ∀ i, T i → ¬ X i) (hup : ∀ i, X i → w0.heap.size ≤ i) (h0 : ¬ X 0) : LS w0 b S T w' :=
  ⟨H.bo.modT hm hX, H.up, H.m.then hm (fun i hi e => by have := hup i e; omega), H.tab.mod hm h0⟩
theorem u64_k {k : Nat} (h : k < 4096) : IntKind.u64.wrap (k : Int) = ((UInt64.ofNat k).toNat : Int) := by
  rw [IntKind.wrap_u64, UInt64.toNat_ofNat']
  omega
end Go.Proofs.YtdeghpmlhcaedaaDoor
