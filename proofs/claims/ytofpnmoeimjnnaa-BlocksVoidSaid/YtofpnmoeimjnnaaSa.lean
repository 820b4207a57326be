/- The walks of accounts.New, there, Get, Put. -/
import Derived.Test.YtofpnmoeimjnnaaBk
namespace Go.Proofs.Ytofpnmoeimjnnaa
open Go.RowKit
open Go.ChangeMaps (setBlock)
set_option linter.unusedSimpArgs false
set_option linter.unusedVariables false
attribute [local go_sem ↓] wlKey ldKey stKey wlAcct ldAcct stAcct wlHold ldHold stHold eqKey1 eqAcct eqHold
attribute [local go_sem] eqMap neMap av_size av_c av_s av_c' av_s' av_o av_all av_one hd_size hd_key hd_acct hd_all hd_one zKey_size zAcct_size zHold_size cell_blk frozen_blk kc_ext one_int one_bool one_ptr one_slice one_map kc_one kc_one0 kc_size Value.cells
/-- A store that is there, and what it holds. -/
def StAt (w : World) (p b : Nat) (m : List (Key × Acct)) : Prop :=
  w.heap[p]? = some (.cells #[.map (some b)] 143 (0, 0)) ∧ ∃ es c, w.heap[b]? = some (.map es c) ∧ MapIs kv avv es c m
theorem StAt.mod {w w' : World} {p b : Nat} {m : List (Key × Acct)} {S : Nat → Prop} (h : StAt w p b m) (hm : Mod S w w') (h1 : ¬ S p) (h2 : ¬ S b) : StAt w' p b m := by
  obtain ⟨kp, es, c, kb, M⟩ := h
  exact ⟨hm.at kp h1, es, c, hm.at kb h2, M⟩
theorem StAt.mod0 {w w' : World} {p b : Nat} {m : List (Key × Acct)} (h : StAt w p b m) (hm : Mod (fun _ => False) w w') : StAt w' p b m := h.mod hm (fun h => h) (fun h => h)
theorem StAt.lt {w : World} {p b : Nat} {m : List (Key × Acct)} (h : StAt w p b m) : p < w.heap.size ∧ b < w.heap.size ∧ p ≠ b := by
  obtain ⟨kp, es, c, kb, M⟩ := h
  exact ⟨lt_size kp, lt_size kb, ne_of_obj kp kb (by simp)⟩
theorem StAt.nodup {w : World} {p b : Nat} {m : List (Key × Acct)} (h : StAt w p b m) : (m.map Prod.fst).Nodup := by
  obtain ⟨kp, es, c, kb, M⟩ := h
  exact M.nodup
def getA (m : List (Key × Acct)) (k : Key) : Acct := (lkp k m).getD acct0
def putA (m : List (Key × Acct)) (k : Key) (a : Acct) : List (Key × Acct) := if a = acct0 then del k m else put k a m
theorem there_c (p b : Nat) (m : List (Key × Acct)) (w : World) (h : StAt w p b m) : Calls Try.prog 83 #[.pointer (some ⟨p, 0, none⟩)] w fun e w' => e = .returned (.bool true) ∧ w = w' := by
  obtain ⟨kp, _⟩ := h
  go_enter Try.func83, Try.ntmps83
  go_wp2
  go_ret
  exact ⟨rfl, rfl⟩
theorem there_void (p : Nat) (w : World) (kp : w.heap[p]? = some (.cells #[.map none] 143 (0, 0))) : Calls Try.prog 83 #[.pointer (some ⟨p, 0, none⟩)] w fun e w' => e = .returned (.bool false) ∧ w = w' := by
  go_enter Try.func83, Try.ntmps83
  go_wp2
  go_ret
  exact ⟨rfl, rfl⟩
theorem there_nil (w : World) : Calls Try.prog 83 #[.pointer none] w fun e w' => e = .returned (.bool false) ∧ w = w' := by
  go_enter Try.func83, Try.ntmps83
  go_wp2
  go_ret
  exact ⟨rfl, rfl⟩
theorem newS_c (w : World) : Calls Try.prog 24 #[] w fun e w' => ∃ p b, e = .returned (.pointer (some ⟨p, 0, none⟩)) ∧ w.heap.size ≤ p ∧ w.heap.size ≤ b ∧ StAt w' p b [] ∧ Mod (fun _ => False) w w' := by
  have hmm := @run_makeMap Try.prog
  go_enter Try.func24, Try.ntmps24
  go_wp2_with fail
  go_ret
  obtain ⟨h1, h2⟩ := fresh2 w (.map #[] 0) (.cells #[.map (some w.heap.size)] 143)
  exact ⟨_, w.heap.size, rfl, by omega, by omega, ⟨h2, _, _, h1, MapIs.empty kv avv⟩, ((Mod.refl _ _).alloc _).alloc _⟩
set_option maxHeartbeats 1600000 in
theorem get_c (p b : Nat) (m : List (Key × Acct)) (k : Key) (w : World) (h : StAt w p b m) : Calls Try.prog 75 #[.pointer (some ⟨p, 0, none⟩), .agg (kc k)] w fun e w' => e = .returned (.agg (av (getA m k))) ∧ Mod (fun _ => False) w w' := by
  obtain ⟨kp, es, cl, kb, M⟩ := id h
  have H := Lib.hid h
  clear h
  go_enter Try.func75, Try.ntmps75
  go_upto_region 0 with fail
  have Lkp := lt_size kp
  have Lkb := lt_size kb
  refine wp_pass0 (C := fun _ _ _ => False) (κ := fun i => [3, 3].getD i 0) [0, 1] (by kernel_rfl) (by kernel_rfl) (fun _ _ d _ _ h => by cases d <;> first | exact h | exact absurd h (hP _ _ _)) ?_
  (refine TD.box (v := ?v1) (by simp only [zA, zB, zC]; rfl) rfl ?hw1 rfl rfl ?hx1 (fun p3 hp3 => ?hn1); (case hw1 => rfl); (case hx1 => (simp only [Act.eval, zD, zA, zB, zC, zE]; (try rfl))); (try simp only [Act.put, zF, zG, zH]))
  (refine TD.allocB (by simp only [zA, zB, zC]; rfl) rfl ?hw2 rfl rfl alAcct (fun p4 hp4 => ?hn2); (case hw2 => rfl); (try simp only [Act.put, zF, zG, zH]))
  obtain ⟨ne_p4_p3, hp4⟩ := Bx.set_none hp4
  refine TD.nil (fun w1 hr => ?_)
  have kp := hr.mod.at kp (fun h => h)
  have kb := hr.mod.at kb (fun h => h)
  have kp3 := hr.box p3 _ (by first | exact Bx.set_same _ _ _ | (simp only [Bx.set_ne _ (Ne.symm ne_p4_p3), Bx.set_ne _ ne_p4_p3, Bx.set_same]; rfl)); dsimp only [Value.cells] at kp3; obtain ⟨gp3, kp3⟩ := kp3
  have kp4 := hr.box p4 _ (by first | exact Bx.set_same _ _ _ | (simp only [Bx.set_ne _ (Ne.symm ne_p4_p3), Bx.set_ne _ ne_p4_p3, Bx.set_same]; rfl)); dsimp only [Value.cells] at kp4; obtain ⟨gp4, kp4⟩ := kp4
  have m1 := hr.mod
  go_wp2_with fail
  go_at_call 83
  refine (there_c p b m _ (H.out.mod0 m1)).mono ?_
  rintro e w2 ⟨rfl, rfl⟩
  go_upto_region 3 with fail
  have hlk : ∀ wq, Mod (fun _ => False) w1 wq → (Instr.lookup 141 (.map (some b)) (.agg (kc k)) false).run Try.prog wq = .ok (.agg (av (getA m k))) wq := fun wq hq => M.lookupD keyT Try.underlying141 zero_a wq (hq.at0 kb) k
  generalize hga : getA m k = a at *
  have HGA := Lib.hid hga
  clear hga
  have Lkp := lt_size kp
  have Lkb := lt_size kb
  have Lkp3 := lt_size kp3
  have Lkp4 := lt_size kp4
  refine wp_pass (C := fun _ _ _ => False) (κ := fun i => [0, 0, 0, 1, 1, 1, 5].getD i 0) [0, 1, 2, 3, 4, 5, 6] (by kernel_rfl) (by kernel_rfl) (fun _ _ d _ _ h => by cases d <;> first | exact h | exact absurd h (hP _ _ _)) ?_
  (refine TD.val0 (v := ?v3) (by simp only [zA, zB, zC]; rfl) rfl ?hw3 (fun w1 => ?hy3) ?hn3; (case hw3 => rfl); (case hy3 => (go_simp; (try with_reducible rfl))); (try simp only [Act.put, zF, zG, zH]))
  (refine TD.val0 (v := ?v4) (by simp only [zA, zB, zC]; rfl) rfl ?hw4 (fun w1 => ?hy4) ?hn4; (case hw4 => rfl); (case hy4 => (go_simp; (try with_reducible rfl))); (try simp only [Act.put, zF, zG, zH]))
  (refine TD.val0 (v := ?v5) (by simp only [zA, zB, zC]; rfl) rfl ?hw5 (fun w1 => ?hy5) ?hn5; (case hw5 => rfl); (case hy5 => (go_simp; (try with_reducible rfl))); (try simp only [Act.put, zF, zG, zH]))
  (refine TD.load (v := ?v6) (p := ?p6) (Mod.refl _ _) (by simp only [zA, zB, zC]; rfl) rfl ?hw6 rfl ?hx6 (fun wq hSq => ?hy6) ?hn6; (case hw6 => rfl); (case hx6 => (simp only [Act.eval, zD, zA, zB, zC, zE]; (try rfl))); (case hy6 => (have kpq := hSq.at kp (fun h => h); have kbq := hSq.at kb (fun h => h); have kp3q := hSq.at kp3 (fun h => h); have kp4q := hSq.at kp4 (fun h => h); go_simp; (try with_reducible rfl))); (try simp only [Act.put, zF, zG, zH]))
  (refine TD.load (v := ?v7) (p := ?p7) (Mod.refl _ _) (by simp only [zA, zB, zC]; rfl) rfl ?hw7 rfl ?hx7 (fun wq hSq => ?hy7) ?hn7; (case hw7 => rfl); (case hx7 => (simp only [Act.eval, zD, zA, zB, zC, zE]; (try rfl))); (case hy7 => (have kpq := hSq.at kp (fun h => h); have kbq := hSq.at kb (fun h => h); have kp3q := hSq.at kp3 (fun h => h); have kp4q := hSq.at kp4 (fun h => h); go_simp; (try with_reducible rfl))); (try simp only [Act.put, zF, zG, zH]))
  (refine TD.lookup (v := ?v8) (p := ?p8) (q := ?q8) (Mod.refl _ _) (by simp only [zA, zB, zC]; rfl) rfl ?hw8 rfl ?hx8 ?hz8 (fun wq hSq => ?hy8) ?hn8; (case hw8 => rfl); (case hx8 => (simp only [Act.eval, zD, zA, zB, zC, zE]; (try rfl))); (case hz8 => (simp only [Act.eval, zD, zA, zB, zC, zE]; (try rfl))); (case hy8 => (rw [hlk wq hSq]; (try with_reducible rfl))); (try simp only [Act.put, zF, zG, zH]))
  refine TD.eff (by simp only [zA, zB, zC]; rfl) rfl (fun wE hr => ?_)
  have kp := hr.mod.at0 kp
  have kb := hr.mod.at0 kb
  have kp3 := hr.mod.at0 kp3
  have kp4 := hr.mod.at0 kp4
  have mE := hr.mod
  (refine eff_store (X := ?X9) (Y := ?Y9) (w' := ?w9) (by simp only [zA, zB, zC]; rfl) ?hw9 rfl ?hx9 ?hz9 ?hy9 ?hn9; (case hw9 => rfl); (case hx9 => (simp only [Act.eval, zD, zA, zB, zC, zE]; (try rfl))); (case hz9 => (simp only [Act.eval, zD, zA, zB, zC, zE]; (try rfl))); (case hy9 => (go_simp; (try with_reducible rfl))))
  (first | refine TE.nil_set kp4 (fun w3 kp4 mS => ?_) | refine TE.nil_setCell kp4 (fun w3 kp4 mS => ?_))
  (try simp only [Array.setIfInBounds, zF, zG, zH] at kp4)
  have kp := mS.at_ne kp (by omega)
  have kb := mS.at_ne kb (by omega)
  have kp3 := mS.at_ne kp3 (by omega)
  have m3 := (m1.then0 mE).thenB mS (.inl gp4)
  clear hlk
  go_wp2_with fail
  exact bodyPost_ret (results_cell1 (v := .agg (av a)) rfl rfl (by rw [ldAcct]; simp [kp4, av_size, av_all])) rfl ⟨by rw [HGA.out], m3⟩
end Go.Proofs.Ytofpnmoeimjnnaa
