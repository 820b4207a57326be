/- The law's own 'lives'. -/
import Derived.Test.YtleenmldlbccmaaMask
namespace Go.Proofs.Ytleenmldlbccmaa
open Go.RowKit
open Go.ChangeMaps (setBlock)
set_option linter.unusedSimpArgs false
set_option linter.unusedVariables false
attribute [local go_sem ↓] wlKey wlRole wlSpot wlCounts wlBits ldKey ldRole ldSpot ldCounts ldBits stKey stRole stSpot stCounts stBits eqCounts eqBits
attribute [local go_sem] zKey_size zRole_size eqHeld cell_blk frozen_blk kc_ext rc_size rc_key rc_all rc_s rc_w rc_s' rc_w' rc_one sc_size sc_key sc_all sc_n sc_n' sc_one one_int one_bool one_ptr one_slice one_map zSpot_size kc_one kc_one0 Value.cells
def k1 : Key := ⟨[1, 0, 0, 0, 0, 0, 0, 0, 0, 0, 0, 0, 0, 0, 0, 0, 0, 0, 0, 0, 0, 0, 0, 0, 0, 0, 0, 0, 0, 0, 0, 0], rfl⟩
def k2 : Key := ⟨[2, 0, 0, 0, 0, 0, 0, 0, 0, 0, 0, 0, 0, 0, 0, 0, 0, 0, 0, 0, 0, 0, 0, 0, 0, 0, 0, 0, 0, 0, 0, 0], rfl⟩
def ra : Role := ⟨k1, false, true⟩
def rb : Role := ⟨k2, false, true⟩
def rr : Role := ⟨k1, false, false⟩
structure St (w0 w : World) (t hb wb : Nat) (A B R : Option Addr) (L : List Lk) : Prop where
  T : TabAt w t hb wb 3 L
  A : RolesAt w A [ra]
  B : RolesAt w B [rb]
  R : RolesAt w R [rr]
  m : Mod (fun _ => False) w0 w
  hb : w0.heap.size ≤ hb
  wb : w0.heap.size ≤ wb
theorem Mod.gone {w0 w w' : World} {hb wb : Nat} (h : Mod (fun _ => False) w0 w) (k : Mod (fun i => i = hb ∨ i = wb) w w') (h1 : w0.heap.size ≤ hb) (h2 : w0.heap.size ≤ wb) : Mod (fun _ => False) w0 w' :=
  h.then k (fun i hi e => by rcases e with rfl | rfl <;> omega)
theorem St.to {w0 w w' : World} {t hb wb : Nat} {A B R : Option Addr} {L L' : List Lk} (h : St w0 w t hb wb A B R L) (hT : TabAt w' t hb wb 3 L') (hm : Mod (fun i => i = hb ∨ i = wb) w w') : St w0 w' t hb wb A B R L' :=
  ⟨hT, h.A.modT h.T hm, h.B.modT h.T hm, h.R.modT h.T hm, h.m.gone hm h.hb h.wb, h.hb, h.wb⟩
theorem St.to0 {w0 w w' : World} {t hb wb : Nat} {A B R : Option Addr} {L : List Lk} (h : St w0 w t hb wb A B R L) (hm : Mod (fun _ => False) w w') : St w0 w' t hb wb A B R L :=
  h.to (h.T.mod0 hm) (hm.mono (fun _ _ h => h.elim))
theorem St.take {w0 w : World} {t hb wb : Nat} {A B R : Option Addr} {L : List Lk} (h : St w0 w t hb wb A B R L) {a : Option Addr} {r : Role} (hr : RolesAt w a [r]) (i : Fin 64) (z : Int) (hz : (i.val : Int) = z) (hi : i.val < 3) (hL : L.length ≤ 100) (hf : freeB L [r] i.val = true) :
    Calls Try.prog 17 #[.pointer (some ⟨t, 0, none⟩), .slice a 1 1, .int .i64 z] w fun e w' => e = .returned (.int .i64 0) ∧ St w0 w' t hb wb A B R (addL L [r] i) := by
  subst hz
  refine (take_m t hb wb 3 L a [r] 1 i w h.T (by omega) (by omega) hr (by simp; omega) hi).mono ?_
  unfold TakePost
  intro e w' hh
  rw [if_pos hf] at hh
  obtain ⟨he, hT, hm⟩ := hh
  exact ⟨he, h.to hT hm⟩
theorem St.take_no {w0 w : World} {t hb wb : Nat} {A B R : Option Addr} {L : List Lk} (h : St w0 w t hb wb A B R L) {a : Option Addr} {r : Role} (hr : RolesAt w a [r]) (i : Fin 64) (z : Int) (hz : (i.val : Int) = z) (hi : i.val < 3) (hL : L.length ≤ 100) (hf : freeB L [r] i.val = false) :
    Calls Try.prog 17 #[.pointer (some ⟨t, 0, none⟩), .slice a 1 1, .int .i64 z] w fun e w' => e = .returned (.int .i64 23) ∧ St w0 w' t hb wb A B R L := by
  subst hz
  refine (take_m t hb wb 3 L a [r] 1 i w h.T (by omega) (by omega) hr (by simp; omega) hi).mono ?_
  unfold TakePost
  intro e w' hh
  rw [hf, if_neg (by simp)] at hh
  obtain ⟨he, hm⟩ := hh
  exact ⟨he, h.to0 hm⟩
theorem St.threads {w0 w : World} {t hb wb : Nat} {A B R : Option Addr} {L : List Lk} (h : St w0 w t hb wb A B R L) {a : Option Addr} {r : Role} (hr : RolesAt w a [r]) (z : Int) (hz : ((maskOf (freeB L [r]) 3 : Nat) : Int) = z) :
    Calls Try.prog 13 #[.pointer (some ⟨t, 0, none⟩), .slice a 1 1] w fun e w' => e = .returned (.int .u64 z) ∧ St w0 w' t hb wb A B R L := by
  subst hz
  refine (threads_m t hb wb 3 L a [r] 1 w h.T (by omega) (by omega) hr (by simp)).mono ?_
  rintro e w' ⟨he, hm⟩
  exact ⟨he, h.to0 hm⟩
theorem St.release {w0 w : World} {t hb wb : Nat} {A B R : Option Addr} {L : List Lk} (h : St w0 w t hb wb A B R L) {a : Option Addr} {r : Role} (hr : RolesAt w a [r]) (i : Fin 64) (z : Int) (hz : (i.val : Int) = z) (hi : i.val < 3) (hL : L.length ≤ 100) (hf : relB L [r] i = true) :
    Calls Try.prog 15 #[.pointer (some ⟨t, 0, none⟩), .slice a 1 1, .int .i64 z] w fun e w' => e = .returned (.int .i64 0) ∧ St w0 w' t hb wb A B R (subL L [r] i) := by
  subst hz
  refine (release_m t hb wb 3 L a [r] 1 i w h.T hr (by omega) (by simp) hi).mono ?_
  intro e w' hh
  rw [if_pos hf] at hh
  obtain ⟨he, hT, hm⟩ := hh
  exact ⟨he, h.to hT hm⟩
theorem St.release_no {w0 w : World} {t hb wb : Nat} {A B R : Option Addr} {L : List Lk} (h : St w0 w t hb wb A B R L) {a : Option Addr} {r : Role} (hr : RolesAt w a [r]) (i : Fin 64) (z : Int) (hz : (i.val : Int) = z) (hi : i.val < 3) (hL : L.length ≤ 100) (hf : relB L [r] i = false) :
    Calls Try.prog 15 #[.pointer (some ⟨t, 0, none⟩), .slice a 1 1, .int .i64 z] w fun e w' => e = .returned (.int .i64 11) ∧ St w0 w' t hb wb A B R L := by
  subst hz
  refine (release_m t hb wb 3 L a [r] 1 i w h.T hr (by omega) (by simp) hi).mono ?_
  intro e w' hh
  rw [hf, if_neg (by simp)] at hh
  obtain ⟨he, hm⟩ := hh
  exact ⟨he, h.to0 hm⟩
theorem St.free {w0 w : World} {t hb wb : Nat} {A B R : Option Addr} {L : List Lk} (h : St w0 w t hb wb A B R L) (b : Bool) (hf : L.isEmpty = b) :
    Calls Try.prog 19 #[.pointer (some ⟨t, 0, none⟩)] w fun e w' => e = .returned (.bool b) ∧ St w0 w' t hb wb A B R L := by
  subst hf
  refine (free_T t hb wb 3 L w h.T).mono ?_
  rintro e w' ⟨he, rfl⟩
  exact ⟨he, h⟩
set_option maxHeartbeats 3200000 in
theorem lives_c (w : World) : Calls Try.prog 10 #[] w fun e w' => e = .returned (.bool true) ∧ Mod (fun _ => False) w w' := by
  obtain ⟨w1, hA, hB, hR, m1, e1⟩ : ∃ w1, RolesAt w1 (some ⟨w.heap.size, 0, none⟩) [ra] ∧ RolesAt w1 (some ⟨w.heap.size + 1, 0, none⟩) [rb] ∧ RolesAt w1 (some ⟨w.heap.size + 1 + 1, 0, none⟩) [rr] ∧ Mod (fun _ => False) w w1 ∧
      w1 = ((w.alloc (.cells #[.int .u8 1, .int .u8 0, .int .u8 0, .int .u8 0, .int .u8 0, .int .u8 0, .int .u8 0, .int .u8 0, .int .u8 0, .int .u8 0, .int .u8 0, .int .u8 0, .int .u8 0, .int .u8 0, .int .u8 0, .int .u8 0, .int .u8 0, .int .u8 0, .int .u8 0, .int .u8 0, .int .u8 0, .int .u8 0, .int .u8 0, .int .u8 0, .int .u8 0, .int .u8 0, .int .u8 0, .int .u8 0, .int .u8 0, .int .u8 0, .int .u8 0, .int .u8 0, .bool false, .bool true] 44)).alloc (.cells #[.int .u8 2, .int .u8 0, .int .u8 0, .int .u8 0, .int .u8 0, .int .u8 0, .int .u8 0, .int .u8 0, .int .u8 0, .int .u8 0, .int .u8 0, .int .u8 0, .int .u8 0, .int .u8 0, .int .u8 0, .int .u8 0, .int .u8 0, .int .u8 0, .int .u8 0, .int .u8 0, .int .u8 0, .int .u8 0, .int .u8 0, .int .u8 0, .int .u8 0, .int .u8 0, .int .u8 0, .int .u8 0, .int .u8 0, .int .u8 0, .int .u8 0, .int .u8 0, .bool false, .bool true] 44)).alloc (.cells #[.int .u8 1, .int .u8 0, .int .u8 0, .int .u8 0, .int .u8 0, .int .u8 0, .int .u8 0, .int .u8 0, .int .u8 0, .int .u8 0, .int .u8 0, .int .u8 0, .int .u8 0, .int .u8 0, .int .u8 0, .int .u8 0, .int .u8 0, .int .u8 0, .int .u8 0, .int .u8 0, .int .u8 0, .int .u8 0, .int .u8 0, .int .u8 0, .int .u8 0, .int .u8 0, .int .u8 0, .int .u8 0, .int .u8 0, .int .u8 0, .int .u8 0, .int .u8 0, .bool false, .bool false] 44) := by
    obtain ⟨h1, h2, h3⟩ := fresh3 w (.cells #[.int .u8 1, .int .u8 0, .int .u8 0, .int .u8 0, .int .u8 0, .int .u8 0, .int .u8 0, .int .u8 0, .int .u8 0, .int .u8 0, .int .u8 0, .int .u8 0, .int .u8 0, .int .u8 0, .int .u8 0, .int .u8 0, .int .u8 0, .int .u8 0, .int .u8 0, .int .u8 0, .int .u8 0, .int .u8 0, .int .u8 0, .int .u8 0, .int .u8 0, .int .u8 0, .int .u8 0, .int .u8 0, .int .u8 0, .int .u8 0, .int .u8 0, .int .u8 0, .bool false, .bool true] 44) (.cells #[.int .u8 2, .int .u8 0, .int .u8 0, .int .u8 0, .int .u8 0, .int .u8 0, .int .u8 0, .int .u8 0, .int .u8 0, .int .u8 0, .int .u8 0, .int .u8 0, .int .u8 0, .int .u8 0, .int .u8 0, .int .u8 0, .int .u8 0, .int .u8 0, .int .u8 0, .int .u8 0, .int .u8 0, .int .u8 0, .int .u8 0, .int .u8 0, .int .u8 0, .int .u8 0, .int .u8 0, .int .u8 0, .int .u8 0, .int .u8 0, .int .u8 0, .int .u8 0, .bool false, .bool true] 44) (.cells #[.int .u8 1, .int .u8 0, .int .u8 0, .int .u8 0, .int .u8 0, .int .u8 0, .int .u8 0, .int .u8 0, .int .u8 0, .int .u8 0, .int .u8 0, .int .u8 0, .int .u8 0, .int .u8 0, .int .u8 0, .int .u8 0, .int .u8 0, .int .u8 0, .int .u8 0, .int .u8 0, .int .u8 0, .int .u8 0, .int .u8 0, .int .u8 0, .int .u8 0, .int .u8 0, .int .u8 0, .int .u8 0, .int .u8 0, .int .u8 0, .int .u8 0, .int .u8 0, .bool false, .bool false] 44)
    exact ⟨_, RolesAt.one h1 ra (by kernel_rfl), RolesAt.one h2 rb (by kernel_rfl), RolesAt.one h3 rr (by kernel_rfl), (((Mod.refl _ _).alloc _).alloc _).alloc _, rfl⟩
  go_enter Try.func10, Try.ntmps10
  go_wp2_with (go_at_call 11; rw [← e1]; refine (new_c 3 _ (by omega) (by omega)).mono ?_; rintro e w2 ⟨t, hb, wb, rfl, ht, hhb, hwb, hT, m2⟩; clear e1; have hS0 : St w w2 t hb wb _ _ _ [] := ⟨hT, hA.mod0 m2, hB.mod0 m2, hR.mod0 m2, m1.then0 m2, Nat.le_trans m1.size hhb, Nat.le_trans m1.size hwb⟩; clear hT m2 hA hB hR m1)
  generalize (Value.agg #[.int .u8 1, .int .u8 0, .int .u8 0, .int .u8 0, .int .u8 0, .int .u8 0, .int .u8 0, .int .u8 0, .int .u8 0, .int .u8 0, .int .u8 0, .int .u8 0, .int .u8 0, .int .u8 0, .int .u8 0, .int .u8 0, .int .u8 0, .int .u8 0, .int .u8 0, .int .u8 0, .int .u8 0, .int .u8 0, .int .u8 0, .int .u8 0, .int .u8 0, .int .u8 0, .int .u8 0, .int .u8 0, .int .u8 0, .int .u8 0, .int .u8 0, .int .u8 0]) = v0
  generalize (Value.agg #[.int .u8 2, .int .u8 0, .int .u8 0, .int .u8 0, .int .u8 0, .int .u8 0, .int .u8 0, .int .u8 0, .int .u8 0, .int .u8 0, .int .u8 0, .int .u8 0, .int .u8 0, .int .u8 0, .int .u8 0, .int .u8 0, .int .u8 0, .int .u8 0, .int .u8 0, .int .u8 0, .int .u8 0, .int .u8 0, .int .u8 0, .int .u8 0, .int .u8 0, .int .u8 0, .int .u8 0, .int .u8 0, .int .u8 0, .int .u8 0, .int .u8 0, .int .u8 0]) = v1
  generalize (Value.agg #[.int .u8 1, .int .u8 0, .int .u8 0, .int .u8 0, .int .u8 0, .int .u8 0, .int .u8 0, .int .u8 0, .int .u8 0, .int .u8 0, .int .u8 0, .int .u8 0, .int .u8 0, .int .u8 0, .int .u8 0, .int .u8 0, .int .u8 0, .int .u8 0, .int .u8 0, .int .u8 0, .int .u8 0, .int .u8 0, .int .u8 0, .int .u8 0, .int .u8 0, .int .u8 0, .int .u8 0, .int .u8 0, .int .u8 0, .int .u8 0, .int .u8 0, .int .u8 0, .bool false, .bool true]) = v2
  generalize (Value.agg #[.int .u8 2, .int .u8 0, .int .u8 0, .int .u8 0, .int .u8 0, .int .u8 0, .int .u8 0, .int .u8 0, .int .u8 0, .int .u8 0, .int .u8 0, .int .u8 0, .int .u8 0, .int .u8 0, .int .u8 0, .int .u8 0, .int .u8 0, .int .u8 0, .int .u8 0, .int .u8 0, .int .u8 0, .int .u8 0, .int .u8 0, .int .u8 0, .int .u8 0, .int .u8 0, .int .u8 0, .int .u8 0, .int .u8 0, .int .u8 0, .int .u8 0, .int .u8 0, .bool false, .bool true]) = v3
  generalize (Value.agg #[.int .u8 1, .int .u8 0, .int .u8 0, .int .u8 0, .int .u8 0, .int .u8 0, .int .u8 0, .int .u8 0, .int .u8 0, .int .u8 0, .int .u8 0, .int .u8 0, .int .u8 0, .int .u8 0, .int .u8 0, .int .u8 0, .int .u8 0, .int .u8 0, .int .u8 0, .int .u8 0, .int .u8 0, .int .u8 0, .int .u8 0, .int .u8 0, .int .u8 0, .int .u8 0, .int .u8 0, .int .u8 0, .int .u8 0, .int .u8 0, .int .u8 0, .int .u8 0, .bool false, .bool false]) = v4
  go_wp2_with (first
    | (have hh := hS0; go_at_call 17; refine (hS0.take hS0.R 0 0 rfl (by decide) (by decide) (by decide)).mono ?_; clear hh hS0; rintro e w3 ⟨rfl, hS1⟩)
    | (have hh := hS1; go_at_call 17; refine (hS1.take hS1.R 2 2 rfl (by decide) (by decide) (by decide)).mono ?_; clear hh hS1; rintro e w4 ⟨rfl, hS2⟩)
    | (have hh := hS2; go_at_call 13; refine (hS2.threads hS2.R 7 (by decide)).mono ?_; clear hh hS2; rintro e w5 ⟨rfl, hS3⟩)
    | (have hh := hS3; go_at_call 13; refine (hS3.threads hS3.A 0 (by decide)).mono ?_; clear hh hS3; rintro e w6 ⟨rfl, hS4⟩)
    | (have hh := hS4; go_at_call 13; refine (hS4.threads hS4.B 7 (by decide)).mono ?_; clear hh hS4; rintro e w7 ⟨rfl, hS5⟩)
    | (have hh := hS5; go_at_call 17; refine (hS5.take_no hS5.A 1 1 rfl (by decide) (by decide) (by decide)).mono ?_; clear hh hS5; rintro e w8 ⟨rfl, hS6⟩)
    | (have hh := hS6; go_at_call 15; refine (hS6.release hS6.R 2 2 rfl (by decide) (by decide) (by decide)).mono ?_; clear hh hS6; rintro e w9 ⟨rfl, hS7⟩)
    | (have hh := hS7; go_at_call 13; refine (hS7.threads hS7.A 1 (by decide)).mono ?_; clear hh hS7; rintro e w10 ⟨rfl, hS8⟩)
    | (have hh := hS8; go_at_call 17; refine (hS8.take hS8.A 0 0 rfl (by decide) (by decide) (by decide)).mono ?_; clear hh hS8; rintro e w11 ⟨rfl, hS9⟩)
    | (have hh := hS9; go_at_call 13; refine (hS9.threads hS9.R 1 (by decide)).mono ?_; clear hh hS9; rintro e w12 ⟨rfl, hS10⟩)
    | (have hh := hS10; go_at_call 15; refine (hS10.release_no hS10.A 1 1 rfl (by decide) (by decide) (by decide)).mono ?_; clear hh hS10; rintro e w13 ⟨rfl, hS11⟩)
    | (have hh := hS11; go_at_call 19; refine (hS11.free false (by decide)).mono ?_; clear hh hS11; rintro e w14 ⟨rfl, hS12⟩))
  go_ret
  exact ⟨rfl, hS12.m⟩
end Go.Proofs.Ytleenmldlbccmaa
