/- Graphs: the methods' contracts, as the laws GraphsBehind and GraphsOrder use them. -/
import Derived.Test.YtffcnnogkpdinaaGlv
import Derived.Test.YtffcnnogkpdinaaGbp
import Derived.Test.YtffcnnogkpdinaaGcf
namespace Go.Proofs.Ytffcnnogkpdinaa
open Go.RowKit
open Go.ChangeMaps (setBlock)
set_option linter.unusedSimpArgs false
set_option linter.unusedVariables false
attribute [local go_sem ↓] wlKey wlRole ldKey ldRole stKey stRole
attribute [local go_sem] zKey_size zRole_size kc_ext rc_size rc_key rc_all rc_s rc_w rc_s' rc_w' rc_one one_int one_bool one_ptr one_slice one_map kc_one kc_one0 cell_blk frozen_blk Value.cells eqMap neMap
theorem putA_c {g q : Nat} {K : List Rn} {T : Nat → Prop} {w : World} (hA : RAt g q K T w) (hq : q < 900) (id : Int64) (z : Int) (hz : id.toInt = z) (a : Option Addr) (l : List Role) (n c : Nat) (hn : l.length = n) (hl : RolesAt w a l) (hll : l.length ≤ 800) (hd : l ≠ [] → ∀ b o, a = some ⟨b, o, none⟩ → ¬ T b) (hid : ∀ x ∈ K, x.id ≠ id) (K' : List Rn) (hK : K' = K ++ [⟨id, chainR K id l, l⟩]) :
    Calls Try.prog 10 #[ptrV g, .int .i64 z, .slice a n c] w fun e w' => e = .returned (.int .i64 0) ∧ ∃ T', RAt g (q + 1) K' T' w' ∧ Mod T w w' ∧ ∀ i, T' i → T i ∨ w.heap.size ≤ i := by
  subst hz
  subst hn
  subst hK
  exact putR_c hA hq id a l c hl hll hd hid
theorem popB_c {g q : Nat} {K : List Rn} {T : Nat → Prop} {w : World} (hA : RAt g q K T w) {id : Int64} (h : ∃ X x Y, K = X ++ x :: Y ∧ x.id = id ∧ X.any (fun y => conf y.l x.l) = true) (z : Int) (hz : id.toInt = z) :
    Calls Try.prog 16 #[ptrV g, .int .i64 z] w fun e w' => e = .returned (.int .i64 23) ∧ Mod (fun _ => False) w w' := by
  obtain ⟨X, x, Y, rfl, rfl, hb⟩ := h
  subst hz
  refine (popR_c hA).mono ?_
  rintro e w' (⟨_, h2, h3⟩ | ⟨h1, _⟩)
  · exact ⟨h2, h3⟩
  · rw [hb] at h1; cases h1
theorem popO_c {g q : Nat} {K : List Rn} {T : Nat → Prop} {w : World} (hA : RAt g q K T w) {X Y : List Rn} {x : Rn} (hK : K = X ++ x :: Y) (hb : X.any (fun y => conf y.l x.l) = false) (z : Int) (hz : x.id.toInt = z) (K' : List Rn) (hK' : K' = X ++ Y) :
    Calls Try.prog 16 #[ptrV g, .int .i64 z] w fun e w' => e = .returned (.int .i64 0) ∧ RAt g q K' T w' ∧ Mod T w w' := by
  subst hz
  subst hK
  subst hK'
  refine (popR_c hA).mono ?_
  rintro e w' (⟨h1, _⟩ | ⟨_, h2, h3, h4⟩)
  · rw [hb] at h1; cases h1
  · exact ⟨h2, h3, h4⟩
theorem readyE_c {g q : Nat} {K : List Rn} {T : Nat → Prop} {w : World} (hA : RAt g q K T w) (L : List Int64) (hL : readyR K = L) (n : Nat) (hn : L.length = n) :
    Calls Try.prog 13 #[ptrV g] w fun e w' => ∃ a, e = .returned (.slice a n n) ∧ SlAt ic 1 w' a L ∧ Mod (fun _ => False) w w' := by
  subst hL
  subst hn
  exact (readyR_c hA).mono fun e w' ⟨a, h1, h2, _, _, h3⟩ => ⟨a, h1, h2, h3⟩
theorem lenE_c {g q : Nat} {K : List Rn} {T : Nat → Prop} {w : World} (hA : RAt g q K T w) (n : Nat) (hn : K.length = n) :
    Calls Try.prog 19 #[ptrV g] w fun e w' => e = .returned (.int .i64 (n : Int)) ∧ w' = w := by
  subst hn
  exact lenR_c hA
theorem sameE_c {w : World} {a b : Option Addr} {l : List Int64} (n c1 c2 : Nat) (hn : l.length = n) (h1 : SlAt ic 1 w a l) (h2 : SlAt ic 1 w b l) (hl : l.length ≤ 1000) :
    Calls Try.prog 12 #[.slice a n c1, .slice b n c2] w fun e w' => e = .returned (.bool true) ∧ Mod (fun _ => False) w w' := by
  subst hn
  refine (same_c a b l l _ _ w h1 h2 (by omega) (by omega)).mono ?_
  rintro e w' ⟨rfl, hm⟩
  exact ⟨by simp, hm⟩
theorem int_eqn {z : Int64} {i : Nat} (hi : i ≤ 1000) : (z.toInt == (i : Int)) = decide (z = idn i) := by
  rw [← idn_toInt hi, Bool.eq_iff_iff, beq_iff_eq, decide_eq_true_iff, Int64.toInt_inj]
end Go.Proofs.Ytffcnnogkpdinaa
