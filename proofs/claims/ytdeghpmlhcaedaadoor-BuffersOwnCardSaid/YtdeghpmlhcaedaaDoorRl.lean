/- The heap of both sides: Push of one that is there, of none; Len, Top, Bottom. -/
import Derived.Test.YtdeghpmlhcaedaaDoorRp
namespace Go.Proofs.YtdeghpmlhcaedaaDoor
open Go.RowKit Go.Sort
open Go.ChangeMaps (setBlock)
set_option linter.unusedSimpArgs false
set_option linter.unusedVariables false
attribute [local go_sem ↓] wlRk ldRk stRk eqRk eqRk2
attribute [local go_sem] rkc_size ndc_size cell_blk frozen_blk one_int one_bool one_ptr one_slice one_map Value.cells enter_fn eqMap neMap
/-- Of an id that is there. -/
theorem Hp.at {w : World} {h s0 s1 mb : Nat} {v0 v1 : Value} {L0 L1 : List Nat} {nd : Nat → Nd} {m : List (Int64 × Nat)} (H : Hp w h s0 s1 mb v0 v1 L0 L1 nd m) {id : Int64} (hid : ∃ x ∈ m.map (fun p => nd p.2), x.id = id) : ∃ b, lkp id m = some b ∧ b ∈ L0 ∧ (nd b).id = id := by
  obtain ⟨x, hx, rfl⟩ := hid
  obtain ⟨⟨i, b⟩, hp, rfl⟩ := List.mem_map.1 hx
  obtain ⟨es, c, _, M⟩ := H.km
  have h1 := H.ids i b hp
  refine ⟨b, ?_, H.p0.mem_iff.2 (List.mem_map.2 ⟨_, hp, rfl⟩), rfl⟩
  show lkp (nd b).id m = some b
  rw [h1]
  exact lkp_of_mem M.nodup hp
set_option maxRecDepth 20000 in
set_option maxHeartbeats 3200000 in
theorem pushT_c {h : Nat} {C : List Nd} {T : Nat → Prop} {w : World} (hA : HAt h C T w) (r : Rk) (id : Int64) (hid : ∃ x ∈ C, x.id = id) :
    Calls Tryd.prog 33 #[ptrV h, .agg (rkc r), .int .i64 id.toInt] w fun e w' => e = .returned (.int .i64 12) ∧ Mod (fun _ => False) w w' := by
  obtain ⟨s0, s1, mb, v0, v1, L0, L1, nd, m, H, rfl, hO⟩ := hA
  obtain ⟨b, hb, _, _⟩ := H.at hid
  obtain ⟨es, c, kb, M⟩ := H.km
  have kh := H.kh
  have hlk : ∀ wq b', wq.heap[mb]? = some (.map es c) → (Instr.lookup 108 (.map (some mb)) (.int .i64 id.toInt) b').run Tryd.prog wq = _ := fun wq b' hq => M.lookup idT Tryd.underlying108 (z := .pointer none) (fun w => by kernel_rfl) wq hq id b'
  simp only [hb, Option.map_some, zE, Option.isSome_some] at hlk
  have HLK := Lib.hid hlk
  clear H hO hid hlk hb M
  go_enter Tryd.func33, Tryd.ntmps33
  go_upto_region 0 with fail
  have Lkh := lt_size kh
  have Lkb := lt_size kb
  refine wp_pass0 (C := fun _ _ _ => False) (κ := fun i => [3, 0].getD i 0) [0, 1] (by kernel_rfl) (by kernel_rfl) (fun _ _ d _ _ h => by cases d <;> first | exact h | exact absurd h (hP _ _ _)) ?_
  (refine TD.box (v := ?v1) (by simp only [zA, zB, zC]; rfl) rfl ?hw1 rfl rfl ?hx1 (fun p4 hp4 => ?hn1); (case hw1 => rfl); (case hx1 => (simp only [Act.eval, zD, zA, zB, zC, zE]; (try rfl))); (try simp only [Act.put, zF, zG, zH]))
  (refine TD.val0 (v := ?v2) (by simp only [zA, zB, zC]; rfl) rfl ?hw2 (fun w1 => ?hy2) ?hn2; (case hw2 => rfl); (case hy2 => (go_simp; (try with_reducible rfl))); (try simp only [Act.put, zF, zG, zH]))
  refine TD.nil (fun w1 hr => ?_)
  have kh := hr.mod.at kh (fun h => h)
  have kb := hr.mod.at kb (fun h => h)
  have kp4 := hr.box p4 _ (by first | exact Bx.set_same _ _ _ | (simp only [Bx.set_same]; rfl)); dsimp only [Value.cells] at kp4; obtain ⟨gp4, kp4⟩ := kp4
  have m1 := hr.mod
  clear hr
  go_wp2_with fail
  go_at_call 55
  refine (there_c kh).mono ?_
  rintro e w2 ⟨rfl, rfl⟩
  go_upto_region 3 with fail
  have hl : ∀ wq, Mod (fun _ => False) w2 wq → (Instr.lookup 108 (.map (some mb)) (.int .i64 id.toInt) true).run Tryd.prog wq = .ok (.tuple #[ptrV b, .bool true]) wq := fun wq hq => HLK.out wq true (hq.at0 kb)
  have Lkh := lt_size kh
  have Lkb := lt_size kb
  have Lkp4 := lt_size kp4
  refine wp_pass0 (C := fun _ _ _ => False) (κ := fun i => [0, 0, 0, 1, 0, 1, 0, 0, 0, 0, 0].getD i 0) [0, 1, 2, 3, 4, 5, 6, 7, 8, 9, 10] (by kernel_rfl) (by kernel_rfl) (fun _ _ d _ _ h => by cases d <;> first | exact h | exact absurd h (hP _ _ _)) ?_
  (refine TD.val0 (v := ?v3) (by simp only [zA, zB, zC]; rfl) rfl ?hw3 (fun w1 => ?hy3) ?hn3; (case hw3 => rfl); (case hy3 => (go_simp; (try with_reducible rfl))); (try simp only [Act.put, zF, zG, zH]))
  (refine TD.val0 (v := ?v4) (by simp only [zA, zB, zC]; rfl) rfl ?hw4 (fun w1 => ?hy4) ?hn4; (case hw4 => rfl); (case hy4 => (go_simp; (try with_reducible rfl))); (try simp only [Act.put, zF, zG, zH]))
  (refine TD.val0 (v := ?v5) (by simp only [zA, zB, zC]; rfl) rfl ?hw5 (fun w1 => ?hy5) ?hn5; (case hw5 => rfl); (case hy5 => (go_simp; (try with_reducible rfl))); (try simp only [Act.put, zF, zG, zH]))
  (refine TD.load (v := ?v6) (p := ?p6) (Mod.refl _ _) (by simp only [zA, zB, zC]; rfl) rfl ?hw6 rfl ?hx6 (fun wq hSq => ?hy6) ?hn6; (case hw6 => rfl); (case hx6 => (simp only [Act.eval, zD, zA, zB, zC, zE]; (try rfl))); (case hy6 => (have khq := hSq.at kh (fun h => h); have kbq := hSq.at kb (fun h => h); have kp4q := hSq.at kp4 (fun h => h); go_simp; (try with_reducible rfl))); (try simp only [Act.put, zF, zG, zH]))
  (refine TD.val0 (v := ?v7) (by simp only [zA, zB, zC]; rfl) rfl ?hw7 (fun w1 => ?hy7) ?hn7; (case hw7 => rfl); (case hy7 => (go_simp; (try with_reducible rfl))); (try simp only [Act.put, zF, zG, zH]))
  (refine TD.lookup (v := ?v8) (p := ?p8) (q := ?q8) (Mod.refl _ _) (by simp only [zA, zB, zC]; rfl) rfl ?hw8 rfl ?hx8 ?hz8 (fun wq hSq => ?hy8) ?hn8; (case hw8 => rfl); (case hx8 => (simp only [Act.eval, zD, zA, zB, zC, zE]; (try rfl))); (case hz8 => (simp only [Act.eval, zD, zA, zB, zC, zE]; (try rfl))); (case hy8 => (rw [hl wq hSq]; (try with_reducible rfl))); (try simp only [Act.put, zF, zG, zH]))
  (refine TD.val0 (v := ?v9) (by simp only [zA, zB, zC]; rfl) rfl ?hw9 (fun w1 => ?hy9) ?hn9; (case hw9 => rfl); (case hy9 => (go_simp; (try with_reducible rfl))); (try simp only [Act.put, zF, zG, zH]))
  (refine TD.val0 (v := ?v10) (by simp only [zA, zB, zC]; rfl) rfl ?hw10 (fun w1 => ?hy10) ?hn10; (case hw10 => rfl); (case hy10 => (go_simp; (try with_reducible rfl))); (try simp only [Act.put, zF, zG, zH]))
  (refine TD.val0 (v := ?v11) (by simp only [zA, zB, zC]; rfl) rfl ?hw11 (fun w1 => ?hy11) ?hn11; (case hw11 => rfl); (case hy11 => (go_simp; (try with_reducible rfl))); (try simp only [Act.put, zF, zG, zH]))
  (refine TD.val0 (v := ?v12) (by simp only [zA, zB, zC]; rfl) rfl ?hw12 (fun w1 => ?hy12) ?hn12; (case hw12 => rfl); (case hy12 => (go_simp; (try with_reducible rfl))); (try simp only [Act.put, zF, zG, zH]))
  (refine TD.val0 (v := ?v13) (by simp only [zA, zB, zC]; rfl) rfl ?hw13 (fun w1 => ?hy13) ?hn13; (case hw13 => rfl); (case hy13 => (go_simp; (try with_reducible rfl))); (try simp only [Act.put, zF, zG, zH]))
  refine TD.nil (fun w3 hr => ?_)
  have kh := hr.mod.at kh (fun h => h)
  have kb := hr.mod.at kb (fun h => h)
  have kp4 := hr.mod.at kp4 (fun h => h)
  have m3 := m1.then0 hr.mod
  clear hr hl HLK
  go_wp2_with fail
  go_ret
  exact ⟨rfl, m3⟩
set_option maxRecDepth 20000 in
set_option maxHeartbeats 3200000 in
theorem lenH_c {h : Nat} {C : List Nd} {T : Nat → Prop} {w : World} (hA : HAt h C T w) : Calls Tryd.prog 116 #[ptrV h] w fun e w' => e = .returned (.int .i64 (C.length : Int)) ∧ w' = w := by
  obtain ⟨s0, s1, mb, v0, v1, L0, L1, nd, m, H, rfl, hO⟩ := hA
  obtain ⟨es, c, kb, M⟩ := H.km
  have kh := H.kh
  have hle : ∀ ty, (Builtin.len_ #[108] ty #[.map (some mb)]).run Tryd.prog w = .ok (.int .i64 m.length) w := fun ty => M.len Tryd.underlying108 w kb
  rw [List.length_map]
  clear H hO M
  go_enter Tryd.func116, Tryd.ntmps116
  go_wp2_with fail
  go_at_call 55
  refine (there_c kh).mono ?_
  rintro e w2 ⟨rfl, rfl⟩
  go_wp2_with fail
  go_ret
  exact ⟨rfl, rfl⟩
end Go.Proofs.YtdeghpmlhcaedaaDoor
