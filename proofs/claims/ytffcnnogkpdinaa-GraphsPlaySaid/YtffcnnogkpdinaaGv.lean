/- Graphs: maps.Values, slices.AppendSeq, slices.Collect at the map of ids. -/
import Derived.RangeFuncNested
import Derived.RangeFuncBox
import Derived.RangeFuncLeaves
import Derived.Shelf.Abstract
import Derived.WalkKit
import Derived.OwnWalkIn
import Derived.TacticsInMore
import Derived.LoopNIn
import Derived.LoopIn
import Derived.Maps.AppendAt
import Derived.Test.YtffcnnogkpdinaaGw
namespace Go.Proofs.Ytffcnnogkpdinaa
open Go.RowKit Go.Shelf
open Go.ChangeMaps (setBlock)
set_option linter.unusedSimpArgs false
set_option linter.unusedVariables false
attribute [local go_sem] Oper.semAt_some
theorem IterAt.walks {κ ν : Type} {f : κ → Value} {g : ν → Value} {w w' : World} {r b : Nat} {es : Array MapEntry} {clock : Nat} {rem : List (κ × ν)} (h : IterAt w r b f g es clock rem) (hk : KeepsWalks w w') : IterAt w' r b f g es clock rem := by
  obtain ⟨since, seen, c0, h1, h2, h3, h4, h5⟩ := h
  exact ⟨since, seen, c0, hk.same _ _ h1 rfl, h2, h3, h4, h5⟩
theorem grown_of_mod {r : Nat} {w w' : World} (h : Mod (fun i => i = r) w w') : w.grownBy w' (some r) := ⟨h.os, h.tape, h.output, h.size, fun k hk hne => h.block k hk (fun e => hne (by rw [e]))⟩
set_option maxRecDepth 100000 in
set_option maxHeartbeats 2000000 in
theorem values1_in (n l Bs nb c : Nat) (es : Array MapEntry) (N : List (Int64 × Nat)) (M : MapIs idv ptrV es c N) (J Jx : List Nat → World → Prop)
    (hY : ∀ pre x W, J pre W → pre.length < N.length → YieldAt Fence.wide n Try.prog l #[ptrV x] W fun e W' =>
      (e = .returned (.bool true) ∧ J (pre ++ [x]) W' ∧ KeepsWalks W W') ∨ (e = .returned (.bool false) ∧ Jx (pre ++ [x]) W'))
    (W : World) (hJ : AbidesFrom W.heap.size J) (hBs : W.cell? ⟨Bs, 0, none⟩ = some (.map (some nb))) (kb : W.heap[nb]? = some (.map es c)) (h0 : J [] W) :
    CallsIn Fence.wide (n + 1) Try.prog 38 #[.func (.yield l) #[] #[], .pointer (some ⟨Bs, 0, none⟩)] W fun e W' => (∃ v, e = .returned v) ∧
      ((∃ ys : List Nat, ys.Perm (N.map Prod.snd) ∧ J ys W') ∨ (∃ pre, True ∧ Jx pre W')) := by
  refine callsIn_of_wp Try.func38 rfl trivial ?_ rfl
  simp only [Try.ntmps38, List.size_toArray, List.length_cons, List.length_nil, Nat.reduceAdd, Nat.reduceSub, Array.replicate_succ, Array.replicate_zero, List.push_toArray, List.append_toArray, List.nil_append, List.cons_append]
  have hrg := run_range_map (P := Try.prog) W 52 3 62 nb es c Try.underlying52 kb
  have HM := Lib.hid M
  have HJ := Lib.hid hJ
  have HY := Lib.hid hY
  have HK := Lib.hid kb
  clear M hJ hY kb
  gi_wp2
  obtain ⟨W1, e1, r, hr1, kr, m1⟩ : ∃ W1, W.alloc (.mapIter (some nb) c #[] c) = W1 ∧ ∃ r, W.heap.size = r ∧ W1.heap[r]? = some (.mapIter (some nb) c #[] c) ∧ Mod (fun _ => False) W W1 := ⟨_, rfl, _, rfl, heap_alloc_new _ _, (Mod.refl _ _).alloc _⟩
  have hJ1 : J [] W1 := by
    rw [← e1]
    exact HJ.out [] W _ none h0 (World.grownBy_alloc W _ none) (fun r e => by cases e)
  rw [e1, hr1]
  have kb1 := m1.at0 HK.out
  have hit := IterAt.start HM.out kr
  have HR := Lib.hid hr1
  clear hrg kr m1 e1 hr1
  gi_loopw [7] (fun _ wr => ∃ (ys : List Nat) (rem : List (Int64 × Nat)), Hid ((ys ++ rem.map Prod.snd).Perm (N.map Prod.snd)) ∧ IterAt wr r nb idv ptrV es c rem ∧ wr.heap[nb]? = some (.map es c) ∧ J ys wr) (fun _ wr => leftN wr r nb)
  case atStart => exact ⟨[], N, Lib.hid (by simp), hit, kb1, hJ1⟩
  case round =>
    clear hit kb1 hJ1 h0
    obtain ⟨ys, rem, HP, hit, kb, hJs⟩ := hrel
    have hmeas := hit.leftN kb
    have HL := Lib.hid hmeas
    clear hmeas
    obtain ⟨s1, s2, s3, k0, _⟩ := id hit
    rcases hit.next (P := Try.prog) HM.out kb 0 with ⟨rfl, hrun⟩ | ⟨z, rem', w3, it, hperm, hrun, kr3, m3, kb3, hent⟩
    · clear hit k0
      gi_wp2
      go_end0
      exact ⟨⟨_, rfl⟩, .inl ⟨ys, by simpa using HP.out, hJs⟩⟩
    · obtain ⟨k, y⟩ := z
      have hJ2 : J ys w3 := HJ.out ys wr w3 (some r) hJs (grown_of_mod m3) (fun r' e => by
        cases e
        exact ⟨by rw [HR.out]; exact Nat.le_refl _, _, k0, rfl⟩)
      have hlen : ys.length < N.length := by
        have h1 := HP.out.length_eq
        have h2 := hperm.length_eq
        simp only [List.length_append, List.length_map, List.length_cons] at h1 h2
        omega
      have hent2 := (hent w3 kr3 kb3).1
      have hwk : it.isWalk = true := by
        obtain ⟨_, _, _, h1, _⟩ := (hent w3 kr3 kb3).2
        rw [kr3] at h1
        cases h1
        rfl
      have HWK := Lib.hid hwk
      have HEn := Lib.hid hent
      clear hwk
      have HPM := Lib.hid hperm
      obtain ⟨fn, tmps, assign, body, hy, hR⟩ := HY.out ys y w3 hJ2 hlen
      clear hit k0 m3 hent hperm hJs hJ2
      gi_wp2
      refine hR.mono ?_
      rintro e W3 (⟨rfl, hJ3, hk3⟩ | ⟨rfl, hJx3⟩)
      · have kr4 := hk3.same r it kr3 HWK.out
        have kb4 := hk3.same nb _ kb3 rfl
        have hit4 := (HEn.out W3 kr4 kb4).2
        have HI4 := Lib.hid hit4
        have hms : leftN W3 r nb < leftN wr r nb := by
          rw [HI4.out.leftN kb4, HL.out, HPM.out.length_eq]
          simp
        have HMS := Lib.hid hms
        clear hit4 hms
        gi_wp2
        go_roundw
        case rel =>
          refine ⟨ys ++ [y], rem', Lib.hid ?_, HI4.out, kb4, hJ3⟩
          refine .trans ?_ HP.out
          rw [List.append_assoc]
          exact ((HPM.out.map Prod.snd).symm).append_left ys
        case measure => exact HMS.out
      · gi_wp2
        refine bodyPost_ret (results_none rfl _ _ _) rfl ?_
        exact ⟨⟨_, rfl⟩, .inr ⟨_, trivial, hJx3⟩⟩
abbrev valF (Bs : Nat) : Value := .func (.func 38) #[] #[.pointer (some ⟨Bs, 0, none⟩)]
set_option maxHeartbeats 1000000 in
theorem values_c (nb : Nat) (w : World) :
    Calls Try.prog 26 #[.map (some nb)] w fun e w' => e = .returned (valF w.heap.size) ∧ w' = w.alloc (.cells #[.map (some nb)] 52) := by
  go_enter Try.func26, Try.ntmps26
  go_wp2_with fail
  go_ret
  exact ⟨rfl, rfl⟩
theorem values_stops (n Bs nb c : Nat) (es : Array MapEntry) (N : List (Int64 × Nat)) (M : MapIs idv ptrV es c N) (w : World) (hBs : w.heap[Bs]? = some (.cells #[.map (some nb)] 52 (0, 0))) (kb : w.heap[nb]? = some (.map es c)) :
    SeqStopsK Fence.wide (n + 1) Try.prog 38 #[.pointer (some ⟨Bs, 0, none⟩)] (fun x : Nat => #[ptrV x]) KeepsWalks (fun ys => ys.Perm (N.map Prod.snd)) (fun _ => True) N.length w := fun l J Jx W hW hJ _ hY h0 => by
  have h1 : W.heap[Bs]? = some (.cells #[.map (some nb)] 52 (0, 0)) := (hW.block Bs (lt_size hBs)).trans hBs
  exact values1_in n l Bs nb c es N M J Jx hY W hJ (by rw [cell_blk, h1]; rfl) ((hW.block nb (lt_size kb)).trans kb) h0
theorem infoP : (Try.prog.info? 62).map (fun i => (i.zero, i.size, i.bytes)) = some (some (.pointer none), 1, 8) := by kernel_rfl
set_option maxRecDepth 100000 in
set_option maxHeartbeats 2000000 in
theorem appendSeq_c (Bs nb c : Nat) (es : Array MapEntry) (N : List (Int64 × Nat)) (M : MapIs idv ptrV es c N) (hlen : N.length ≤ 900000) (w : World) (hBs : w.heap[Bs]? = some (.cells #[.map (some nb)] 52 (0, 0))) (kb : w.heap[nb]? = some (.map es c)) :
    Calls Try.prog 42 #[.slice none 0 0, valF Bs] w fun e W' => ∃ v ys, ys.Perm (N.map Prod.snd) ∧ e = .returned v ∧ SlOwn pc 1 62 W' w.heap.size v ys ∧ Mod (fun _ => False) w W' := by
  obtain ⟨i0, hi, hz0, hz1, hz2⟩ := info_parts infoP
  refine callsIn_wide.1 (callsIn_of_wp_marks (n := 2) Try.func42 rfl trivial ?_ rfl)
  simp only [Try.ntmps42, List.size_toArray, List.length_cons, List.length_nil, Nat.reduceAdd, Nat.reduceSub, Array.replicate_succ, Array.replicate_zero, List.push_toArray, List.append_toArray, List.nil_append, List.cons_append]
  gi_wp2
  have bO := Boxed.new w 64 (.slice none 0 0)
  have hB0 : Below w.heap.size w (w.alloc (.cells #[.slice none 0 0] 64)) := (Below.refl _ w).alloc (Nat.le_refl _) _
  have hm0 : Mod (fun _ => False) w (w.alloc (.cells #[.slice none 0 0] 64)) := (Mod.refl _ _).alloc _
  refine wpIn_rangeFunc_ownG rfl (by omega) (gf := 38) (lb := #[.pointer (some ⟨Bs, 0, none⟩)]) rfl trivial (enters_of Try.func38 (by kernel_rfl) rfl)
    (values_stops 0 Bs nb c es N M _ (hm0.at0 hBs) (hm0.at0 kb)) walksK_t walksK_b (Below.refl _ _) (fun _ => rfl)
    (fun pre W => (∃ v, Boxed W w.heap.size 64 v ∧ W.ownsRow w.heap.size 62 1 v pre.length (pre.map ptrV) ∧ (v = .slice none 0 0 ↔ pre = [])) ∧ Below w.heap.size w W)
    (fun _ _ _ => False)
    (OwnFrom.and (Own.from (holdsRow_own w.heap.size w.heap.size 64 62 1 (fun pre => pre.length) (fun pre => pre.map ptrV) (fun pre v => v = .slice none 0 0 ↔ pre = [])) _) (ownFrom_below (Nat.le_refl _) (by simp)))
    (fun _ _ _ _ _ hs _ _ => hs)
    ⟨⟨_, bO, World.ownsRow_nil _ _ _ _, by simp⟩, hB0⟩
    (fun x => { tmps := #[.slice none 0 0, .func (.func 38) #[] #[.pointer (some ⟨Bs, 0, none⟩)], .pointer (some ⟨w.heap.size, 0, none⟩), undef, .slice none 0 0, ptrV x, .func (.func 38) #[] #[.pointer (some ⟨Bs, 0, none⟩)], ptrV x, undef, undef, undef, undef, undef], defers := [] }) ?assign ?body ?done ?stop
  case assign =>
    intro l x W K hK
    gi_wp2
    exact hK
  case body =>
    rintro l pre x W ⟨⟨v, hv, hrow, hnil⟩, hB⟩ hlt
    have hc := hv.cell
    gi_wp2_with (gi_at_builtin; refine wpListIn_append_own _ rfl _ _ 64 rfl w.heap.size 62 i0 (.pointer none) 1 8 Try.underlying64 hi hz0 hz1 hz2 rfl (by decide) _ _ _ rfl (hrow.alloc _) ⟨W.heap.size, 0, none⟩ 1 1 [ptrV x] rfl rfl (cell_one_new _ _ _) (by simp [Value.oneCell']) (by simp [maxLen]; omega) (by omega) (by have := hB.size; simp; omega) ?_; intro v' w1 hown' hgrow _; obtain ⟨g', cap', rfl⟩ := ownsRow_succ hown'; obtain ⟨hv1, hv2, hr2, hk2, hb2⟩ := hv.appended (by decide) hrow hB.size (Nat.le_refl _) hown' hgrow; have hc1 := hv1.cell; have hf1 := hv1.frozen)
    exact ⟨hk2.from _, hk2.walks, ⟨_, hv2, by simpa using hr2, by simp⟩, hB.trans hb2⟩
  case done =>
    rintro D ys W hD hys ⟨⟨v, hv, hrow, hnil⟩, hB⟩ hK
    have hc := hv.cell
    have HYS := Lib.hid hys
    clear hys
    gi_wp2
    refine ⟨by simp, .inl ⟨_, _, rfl, run_takeDeferred hK, ?_⟩⟩
    refine ⟨_, results_tmp rfl _ _ _, v, ys, HYS.out, rfl, ?_, Mod.of_below (hB.trans (belowK_b (w := w) (Nat.le_refl _) W D _ _ (by simp at hD; omega) hK rfl rfl)) _⟩
    unfold SlOwn
    rw [cellsOf_pc]
    exact ownsRow_putObj hrow _ hK rfl
  case stop =>
    rintro D c pre W _ _ h _
    exact h.elim
theorem collect_c (Bs nb c : Nat) (es : Array MapEntry) (N : List (Int64 × Nat)) (M : MapIs idv ptrV es c N) (hlen : N.length ≤ 900000) (w : World) (hBs : w.heap[Bs]? = some (.cells #[.map (some nb)] 52 (0, 0))) (kb : w.heap[nb]? = some (.map es c)) :
    Calls Try.prog 36 #[valF Bs] w fun e W' => ∃ v ys, ys.Perm (N.map Prod.snd) ∧ e = .returned v ∧ SlOwn pc 1 62 W' w.heap.size v ys ∧ Mod (fun _ => False) w W' := by
  have hcall := appendSeq_c Bs nb c es N M hlen w hBs kb
  clear hBs kb M
  go_enter Try.func36, Try.ntmps36
  go_wp2_with fail
  go_at_call 42
  refine hcall.mono ?_
  rintro e w2 ⟨v, ys, hp, rfl, h1, h2⟩
  have HX := Lib.hid (And.intro hp (And.intro h1 h2))
  clear h1 h2 hp hcall
  go_wp2_with fail
  go_ret
  exact ⟨v, ys, HX.out.1, rfl, HX.out.2⟩
end Go.Proofs.Ytffcnnogkpdinaa
