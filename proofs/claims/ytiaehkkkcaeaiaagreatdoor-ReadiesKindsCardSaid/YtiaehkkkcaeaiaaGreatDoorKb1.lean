/- The lemmas of the proof, part Kb1: how the program and its data lie in memory, and what its functions do. -/
import Derived.Test.YtiaehkkkcaeaiaaGreatDoorK6
set_option linter.unusedSimpArgs false
set_option linter.unusedVariables false
set_option linter.unusedSectionVars false
namespace Go.Proofs.YtiaehkkkcaeaiaaGreatDoor
open Go.RowKit
open Go.ChangeMaps (setBlock)
attribute [local go_sem ↓] wlKey ldKey stKey ldSg stSg wlTc ldTc stTc eqKey1
attribute [local go_sem] cell_blk frozen_blk kc_ext one_int one_bool one_ptr one_slice one_map kc_one kc_one0 kc_size zKey_size sgc_size sgc_ext sgc_one0 sgc_one' txr_size txr_all txr_one txr_one' txr0 txr38 txr39 txr0' txr38' txr39' zTx_size Value.cells
attribute [local go_sem ↓] wlRdy ldRdy stRdy
attribute [local go_sem] zTc_size zTc_ext zTc_all zTc_all0 rdr_size rdr_all rdr_one zRdy_size zRdy_one
end Go.Proofs.YtiaehkkkcaeaiaaGreatDoor
namespace Go.Proofs.YtiaehkkkcaeaiaaGreatDoor
open Go.RowKit
open Go.ChangeMaps (setBlock)
attribute [local go_sem ↓] wlKey ldKey stKey ldSg stSg wlTc ldTc stTc eqKey1
attribute [local go_sem] cell_blk frozen_blk kc_ext one_int one_bool one_ptr one_slice one_map kc_one kc_one0 kc_size zKey_size sgc_size sgc_ext sgc_one0 sgc_one' txr_size txr_all txr_one txr_one' txr0 txr38 txr39 txr0' txr38' txr39' zTx_size Value.cells
structure TbR where
 k : Key
 s : Sl Key
def tbr (x : TbR) : Array Value := kx x.k [.slice x.s.a x.s.l.length x.s.c]
def zTb : Array Value := tbr ⟨key0, ⟨none, [], 0⟩⟩
theorem tbr_size (x : TbR) : (tbr x).size = 33 := kx_size _ _
theorem tbr_one' (x : TbR) : (tbr x).all (·.oneCell') = true := kx_one _ _ rfl
theorem tbr_key (x : TbR) : (tbr x).extract 0 32 = kc x.k := kx_key _ _
theorem tbr32 (x : TbR) : (tbr x)[32]? = some (.slice x.s.a x.s.l.length x.s.c) := kx_get x.k _ 0
theorem zTb_size : zTb.size = 33 := tbr_size _
attribute [local go_sem] tbr_size zTb_size
theorem tbT : ElT Tryz.prog 94 151 tbr 33 56 where
 u := Tryz.underlying94
 info := by
  obtain ⟨i0, hi, hz0, hz1, hz2⟩ := info_parts (show (Tryz.prog.info? 151).map (fun i => (i.zero, i.size, i.bytes)) = some (some (.agg zTb), 33, 56) by kernel_rfl)
  exact ⟨i0, _, hi, hz0, hz1, hz2, by simp [Value.cells, zTb_size]⟩
 pos := by omega
 size x := tbr_size x
 one x := by
  have := tbr_one' x
  rw [Array.all_eq_true_iff_forall_mem] at this
  intro u hu
  exact this u (by simpa using hu)
theorem row_head {C : Array Value} {o n m : Nat} {X Y : Array Value} (h : C.extract o (o + n) = X) (hX : X.extract 0 m = Y) (hm : m ≤ n) : C.extract o (o + m) = Y := by
 rw [← hX, ← h, Array.extract_extract]
 congr 1 <;> omega
def RfA (b m : Nat) (T : TbL) (v : Value) (w : World) : Prop := ∃ L : List TbR, w.heap[m]? = some (.cells #[v] 96 (0, 0)) ∧ SlOwn tbr 33 151 w b v L ∧ L.map (fun x => (x.k, x.s.l)) = T ∧
 (∀ x ∈ L, SlAt kc 32 w x.s.a x.s.l ∧ x.s.l.length ≤ 256 ∧ ∀ g o, x.s.a = some ⟨g, o, none⟩ → b ≤ g ∧ g < w.heap.size ∧ ∃ C, w.heap[g]? = some (.cells C 82 (0, 0))) ∧ m < b
theorem RfA.mod {b m : Nat} {T : TbL} {v : Value} {w w' : World} {S : Nat → Prop} (H : RfA b m T v w) (hm : Mod S w w') (h1 : ¬ S m) (h2 : ∀ g, v.ownBlock = some g → ¬ S g) (h3 : ∀ g C, b ≤ g → w.heap[g]? = some (.cells C 82 (0, 0)) → ¬ S g) : RfA b m T v w' := by
 obtain ⟨L, k1, k2, k3, k4, k5⟩ := H
 refine ⟨L, hm.at k1 h1, k2.mod hm h2, k3, fun x hx => ?_, k5⟩
 obtain ⟨s1, s2, s3⟩ := k4 x hx
 refine ⟨?_, s2, fun g o e => ?_⟩
 ·rcases s1 with h | ⟨g, o, C, U, fr, ha, hg, hr⟩
  ·exact .inl h
  ·obtain ⟨q1, q2, C2, q3⟩ := s3 g o ha
   exact .inr ⟨g, o, C, U, fr, ha, hm.at hg (h3 g C2 q1 q3), hr⟩
 ·obtain ⟨q1, q2, C2, q3⟩ := s3 g o e
  exact ⟨q1, Nat.lt_of_lt_of_le q2 hm.size, C2, hm.at q3 (h3 g C2 q1 q3)⟩
theorem RfA.mod0 {b m : Nat} {T : TbL} {v : Value} {w w' : World} (H : RfA b m T v w) (hm : Mod (fun _ => False) w w') : RfA b m T v w' := H.mod hm (fun h => h) (fun _ _ h => h) (fun _ _ _ _ h => h)
theorem find_tb (L : List TbR) (k : Key) : tbFind (L.map (fun x => (x.k, x.s.l))) k = (L.find? (fun x => decide (x.k = k))).map (fun x => x.s.l) := by
 unfold tbFind
 rw [List.find?_map, Option.map_map]
 rfl
theorem find_at {L : List TbR} {k : Key} {i : Nat} {y : TbR} (hy : L[i]? = some y) (hk : y.k = k) (h : ∀ j x, j < i → L[j]? = some x → x.k ≠ k) : L.find? (fun x => decide (x.k = k)) = some y := by
 rw [List.find?_eq_some_iff_getElem]
 obtain ⟨hi, he⟩ := List.getElem?_eq_some_iff.1 hy
 exact ⟨by simpa using hk, i, hi, he, fun j hj => by
  have := h j _ hj (List.getElem?_eq_getElem (by omega))
  simpa using this⟩
theorem find_no {L : List TbR} {k : Key} (h : ∀ j x, j < L.length → L[j]? = some x → x.k ≠ k) : L.find? (fun x => decide (x.k = k)) = none := by
 rw [List.find?_eq_none]
 intro x hx
 obtain ⟨j, hj, e⟩ := List.getElem_of_mem hx
 have := h j x hj (by rw [List.getElem?_eq_getElem hj, e])
 simpa using this
def RfFind (T : TbL) (k : Key) (w : World) (e : Ending) (w' : World) : Prop := Mod (fun _ => False) w w' ∧ match tbFind T k with
 | some l => ∃ v, e = .returned (.tuple #[v, .int .i64 0]) ∧ SlOwn kc 32 82 w' w.heap.size v l
 | none => e = .returned (.tuple #[.slice none 0 0, .int .i64 11])
set_option maxRecDepth 20000 in
set_option maxHeartbeats 3200000 in
theorem rfind_c {b m : Nat} {T : TbL} {v : Value} (k : Key) (w : World) (H : RfA b m T v w) (hT : T.length ≤ 100000) : Calls Tryz.prog 90 #[pV m, .agg (kc k)] w (RfFind T k w) := by
 obtain ⟨L, k1, k2, k3, k4, k5⟩ := H
 obtain ⟨va, vc, rfl, hat, _⟩ := k2.at tbT
 have HL := Lib.hid (And.intro hat (And.intro k3 (And.intro k4 k1)))
 obtain ⟨n, hn⟩ : ∃ n, L.length = n := ⟨_, rfl⟩
 have hnb : n ≤ 100000 := by rw [← hn]; have := congrArg List.length k3; rw [List.length_map] at this; omega
 have HN := Lib.hid hn
 have kr := k1
 rw [hn] at kr
 clear k1 k2 k3 k4 k5 hat hn hT
 go_enter Tryz.func90, Tryz.ntmps90
 go_upto_region 0 with fail
 have Lkr := lt_size kr
 refine wp_pass0 (C := fun _ _ _ => False) (κ := fun i => [3, 0, 0].getD i 0) [0, 1, 2] (by kernel_rfl) (by kernel_rfl) (fun _ _ d _ _ h => by cases d <;> first | exact h | exact absurd h (hP _ _ _)) ?_
 (refine TD.box (v := ?v1) (by simp only [zK]; rfl) rfl (by rfl) rfl rfl ?hx1 (fun p3 hp3 => ?n1); (case hx1 => simp only [Act.eval, zM]; try rfl); try simp only [Act.put, zL])
 iterate 2 (refine TD.val0 (v := ?_) (by simp only [zK]; rfl) rfl (by rfl) (fun w1 => ?_) ?_; rotate_left; (next => go_simp; try with_reducible rfl); try simp only [Act.put, zL])
 refine TD.nil (fun w1 hr => ?_)
 replace kr := hr.mod.at kr (fun h => h)
 have kp3 := hr.box p3 _ (by first | exact Bx.set_same _ _ _ | (simp only [Bx.set_same]; rfl)); dsimp only [Value.cells] at kp3; obtain ⟨gp3, kp3⟩ := kp3
 have HM1 := Lib.hid hr.mod
 clear hr
 go_wp2_with fail
 go_loopw [6] (fun s6 ws => ∃ i : Nat, i ≤ n ∧ s6 = .int .i64 (i : Int) ∧ Hid (∀ j x, j < i → L[j]? = some x → x.k ≠ k) ∧ Hid (Mod (fun _ => False) w ws) ∧ ws.heap[m]? = some (.cells #[.slice va n vc] 96 (0, 0)) ∧ ws.heap[p3]? = some (.cells (kc k) 82 (0, 0))) (fun s6 _ => n - (intOf s6).toNat)
 case atStart => exact ⟨0, Nat.zero_le _, rfl, Lib.hid (fun j x h => by omega), HM1, kr, kp3⟩
 case round =>
  clear kr kp3
  obtain ⟨i, hi, rfl, HK, HM, kr, kp3⟩ := hrel
  by_cases hlt : i < n
  ·have hd := decide_eq_true hlt
   obtain ⟨y, hy⟩ : ∃ y, L[i]? = some y := ⟨_, List.getElem?_eq_getElem (by have := HN.out; omega)⟩
   obtain ⟨g, o, C, U, fr, rfl, kg, he, hle⟩ := (HL.out.1.mod0 HM.out).block hy
   have hke := row_head he (tbr_key y) (by omega)
   have hle2 : o + i * 33 + 32 ≤ C.size := by omega
   have hks : C[o + i * 33 + 32]? = some (.slice y.s.a y.s.l.length y.s.c) := cellC he (j := 32) (tbr32 y)
   have HY := Lib.hid (And.intro hy (HL.out.2.2.1 y (List.mem_of_getElem? hy)))
   clear hy he
   go_upto_region 4 with fail
   by_cases hyk : y.k = k
   ·have HE : Hid (tbFind T k = some y.s.l) := Lib.hid (by rw [← HL.out.2.1, find_tb, find_at HY.out.1 hyk HK.out]; rfl)
    have hdk := decide_eq_true hyk
    clear hyk
    have Lkr := lt_size kr
    have Lkp3 := lt_size kp3
    have Lkg := lt_size kg
    refine wp_pass (C := fun _ _ _ => False) (κ := fun i => [0, 0, 0, 1, 0, 0, 0, 1, 1, 0].getD i 0) [0, 1, 2, 3, 4, 5, 6, 7, 8, 9] (by kernel_rfl) (by kernel_rfl) (fun _ _ d _ _ h => by cases d <;> first | exact h | exact absurd h (hP _ _ _)) ?_
    iterate 10 first | (refine TD.val0 (v := ?_) (by simp only [zK]; rfl) rfl (by rfl) (fun w1 => ?_) ?_; rotate_left; (next => go_simp; try with_reducible rfl); try simp only [Act.put, zL]) | (refine TD.load (v := ?_) (p := ?_) (Mod.refl _ _) (by simp only [zK]; rfl) rfl (by rfl) rfl ?_ (fun wq hSq => ?_) ?_; rotate_left 2; (next => simp only [Act.eval, zM]; try rfl); (next => have krq := hSq.at kr (fun h => h); have kp3q := hSq.at kp3 (fun h => h); have kgq := hSq.at kg (fun h => h); go_simp; try with_reducible rfl); try simp only [Act.put, zL])
    refine TD.nil (fun w4 hr => ?_)
    replace kr := hr.mod.at kr (fun h => h)
    replace kp3 := hr.mod.at kp3 (fun h => h)
    replace kg := hr.mod.at kg (fun h => h)
    have HM4 := Lib.hid (HM.out.then0 hr.mod)
    clear hr
    go_upto_region 5 with fail
    obtain ⟨ys, hys⟩ : ∃ n, y.s.l.length = n := ⟨_, rfl⟩
    rw [hys] at hks
    have HYS := Lib.hid hys
    clear hys
    have Lkr := lt_size kr
    have Lkp3 := lt_size kp3
    have Lkg := lt_size kg
    refine wp_pass0 (C := fun _ _ _ => False) (κ := fun i => [0, 0, 0, 1, 0, 0, 0, 1, 5, 0, 0].getD i 0) [0, 1, 2, 3, 4, 5, 6, 7, 8, 9, 10] (by kernel_rfl) (by kernel_rfl) (fun _ _ d _ _ h => by cases d <;> first | exact h | exact absurd h (hP _ _ _)) ?_
    iterate 8 first | (refine TD.val0 (v := ?_) (by simp only [zK]; rfl) rfl (by rfl) (fun w1 => ?_) ?_; rotate_left; (next => go_simp; try with_reducible rfl); try simp only [Act.put, zL]) | (refine TD.load (v := ?_) (p := ?_) (Mod.refl _ _) (by simp only [zK]; rfl) rfl (by rfl) rfl ?_ (fun wq hSq => ?_) ?_; rotate_left 2; (next => simp only [Act.eval, zM]; try rfl); (next => have krq := hSq.at kr (fun h => h); have kp3q := hSq.at kp3 (fun h => h); have kgq := hSq.at kg (fun h => h); go_simp; try with_reducible rfl); try simp only [Act.put, zL])
    refine TD.eff (by simp only [zK]; rfl) rfl (fun w5 hr => ?_)
    replace kr := hr.mod.at kr (fun h => h)
    replace kp3 := hr.mod.at kp3 (fun h => h)
    replace kg := hr.mod.at kg (fun h => h)
    have HM5 := Lib.hid (HM4.out.then0 hr.mod)
    obtain ⟨v3, w6, hap, hO, m6, _⟩ := SlOwn.append keysT (c := y.s.c) (SlOwn.nil (f := kc) (n := 32) (E := 82) w5 w5.heap.size) (HY.out.2.1.mod0 HM5.out) (by have := HY.out.2.2.1; simp; omega) (by decide) (Nat.le_refl _) 27
    rw [HYS.out] at hap
    have HF : Hid (Mod (fun _ => False) w w6 ∧ SlOwn kc 32 82 w6 w.heap.size v3 y.s.l) := Lib.hid ⟨HM5.out.then m6 (fun i hi e => by cases e), by simpa using hO.low HM5.out.size⟩
    clear hr hO m6
    (refine eff_append (by simp only [zK]; rfl) (by rfl) rfl ?hx23 ?hz23 hap ?n23; (case hx23 => simp only [Act.eval, zM]; try rfl); (case hz23 => simp only [Act.eval, zM]; try rfl); try simp only [Act.put, zL])
    (refine TE.val0 (v := ?v24) (by simp only [zK]; rfl) (by rfl) (fun w1 => ?y24) ?n24; (case y24 => go_simp; try with_reducible rfl); try simp only [Act.put, zL])
    (refine TE.val0 (v := ?v25) (by simp only [zK]; rfl) (by rfl) (fun w1 => ?y25) ?n25; (case y25 => go_simp; try with_reducible rfl); try simp only [Act.put, zL])
    refine TE.nil ?_
    go_wp2_with fail
    refine bodyPost_ret (results_tmp2 rfl _ _ _) rfl ?_
    refine ⟨HF.out.1, ?_⟩
    rw [HE.out]
    exact ⟨v3, rfl, HF.out.2⟩
   ·have HK2 : Hid (∀ j x, j < i + 1 → L[j]? = some x → x.k ≠ k) := Lib.hid (fun j x hj hx => by
     rcases Nat.lt_succ_iff_lt_or_eq.1 hj with h | h
     ·exact HK.out j x h hx
     ·subst h
      rw [HY.out.1] at hx
      cases hx
      exact hyk)
    have hdk := decide_eq_false hyk
    clear hyk
    have Lkr := lt_size kr
    have Lkp3 := lt_size kp3
    have Lkg := lt_size kg
    refine wp_pass (C := fun _ _ _ => False) (κ := fun i => [0, 0, 0, 1, 0, 0, 0, 1, 1, 0].getD i 0) [0, 1, 2, 3, 4, 5, 6, 7, 8, 9] (by kernel_rfl) (by kernel_rfl) (fun _ _ d _ _ h => by cases d <;> first | exact h | exact absurd h (hP _ _ _)) ?_
    iterate 10 first | (refine TD.val0 (v := ?_) (by simp only [zK]; rfl) rfl (by rfl) (fun w1 => ?_) ?_; rotate_left; (next => go_simp; try with_reducible rfl); try simp only [Act.put, zL]) | (refine TD.load (v := ?_) (p := ?_) (Mod.refl _ _) (by simp only [zK]; rfl) rfl (by rfl) rfl ?_ (fun wq hSq => ?_) ?_; rotate_left 2; (next => simp only [Act.eval, zM]; try rfl); (next => have krq := hSq.at kr (fun h => h); have kp3q := hSq.at kp3 (fun h => h); have kgq := hSq.at kg (fun h => h); go_simp; try with_reducible rfl); try simp only [Act.put, zL])
    refine TD.nil (fun w4 hr => ?_)
    replace kr := hr.mod.at kr (fun h => h)
    replace kp3 := hr.mod.at kp3 (fun h => h)
    replace kg := hr.mod.at kg (fun h => h)
    have HM4 := Lib.hid (HM.out.then0 hr.mod)
    clear hr hke hks
    go_wp2_with fail
    go_roundw
    case rel => exact ⟨i + 1, by omega, by go_num, HK2, HM4, kr, kp3⟩
    case measure => simp [intOf]; omega
  ·have hd := decide_eq_false hlt
   have HE : Hid (tbFind T k = none) := Lib.hid (by rw [← HL.out.2.1, find_tb, find_no (fun j x hj => HK.out j x (by have := HN.out; omega))]; rfl)
   clear hlt
   go_wp2_with fail
   refine bodyPost_ret (results_tmp2 rfl _ _ _) rfl ?_
   refine ⟨HM.out, ?_⟩
   rw [HE.out]
   rfl
def RfC (m : Nat) (v v' : Value) (w w' : World) : Prop := Mod (fun i => i = m ∨ v.ownBlock = some i) w w' ∧ (v'.ownBlock = v.ownBlock ∨ ∃ g, v'.ownBlock = some g ∧ w.heap.size ≤ g)
theorem bTbl (k : Key) (a : Option Addr) (l : List Key) (n c : Nat) (hn : l.length = n) (w : World) : (Instr.build 151 #[(0, .agg (kc k)), (1, .slice a n c)]).run Tryz.prog w = .ok (.agg (tbr ⟨k, ⟨a, l, c⟩⟩)) w := by
 subst hn
 refine run_build_struct (z := .agg zTb) (places := #[(0, 32), (32, 1)]) Tryz.underlying151 (fun w => by kernel_rfl) (fun w => by kernel_rfl) ?_ w
 show Instr.fill _ zTb [(0, _), (1, _)] = _
 rw [fill_cons (off := 0) (n := 32) rfl (by simp [Value.cells]) (by rw [zTb_size]; omega), fill_cons (off := 32) (n := 1) rfl rfl (by rw [wr_size, zTb_size]; omega)]
 refine congrArg some ?_
 apply Array.toList_inj.1
 have hk : (kc k).toList.length = 32 := by simp
 rw [wr_list _ _ _ (by rw [wr_size, zTb_size]; simp [Value.cells]), wr_list _ _ _ (by rw [zTb_size]; simp [Value.cells])]
 simp only [Value.cells, List.take_zero, List.nil_append, hk]
 unfold tbr kx zTb
 have h1 : (kc k).toList.take 32 = (kc k).toList := List.take_of_length_le (by omega)
 have h2 : (kc k).toList.drop 33 = [] := List.drop_of_length_le (by omega)
 simp [List.take_append, List.drop_append, hk, h1, h2, tbr, kx]
theorem bsTbl (x : TbR) (w : World) : (Instr.buildSlice 94 1 #[(0, .agg (tbr x))]).run Tryz.prog w = .ok (.slice (some ⟨w.heap.size, 0, none⟩) 1 1) (w.alloc (.cells (tbr x) 151)) := by
 obtain ⟨i0, hi, hz0, hz1, hz2⟩ := info_parts (show (Tryz.prog.info? 151).map (fun i => (i.zero, i.size, i.bytes)) = some (some (.agg zTb), 33, 56) by kernel_rfl)
 refine run_buildSlice w _ _ 1 _ _ i0 _ Tryz.underlying94 hi hz0 (by rw [hz1]; omega) (by rw [hz1]; omega) ?_
 rw [hz1]
 show Instr.fill _ _ [(0, _)] = _
 rw [fill_cons (off := 0) (n := 33) rfl (by simp [Value.cells, tbr_size]) (by simp)]
 show some (wr _ 0 (tbr x).toList) = _
 rw [wr_whole (tbr x) _ (by simp [tbr_size, Value.cells, zTb_size])]
def OwnK (l : List Key) (n b : Nat) (v : Value) : Land := fun T w => ∃ a c, v = .slice a n c ∧ SlOwn kc 32 82 w b (.slice a n c) l ∧ ∀ g, (Value.slice a n c).ownBlock = some g → T g
theorem goodOK (l : List Key) (n b : Nat) (v : Value) : Good (OwnK l n b v) where
 cl := fun T w w' h hm => by
  obtain ⟨a, c, e, h2, h3⟩ := h
  exact ⟨a, c, e, h2.mod hm (fun g hg hn => hn (h3 g hg)), h3⟩
 gr := fun T T' w hT h => by
  obtain ⟨a, c, e, h2, h3⟩ := h
  exact ⟨a, c, e, h2, fun g hg => hT g (h3 g hg)⟩
theorem app_nilK {w : World} {B0 c n : Nat} {q : List Key} {a : Option Addr} {T : Nat → Prop} (hs : SlAt kc 32 w a q) (hq : q.length ≤ 1000000) (hn : q.length = n) (hB : B0 ≤ w.heap.size) : ∃ v w', (Builtin.append_ #[27, 27] 27 #[.slice none 0 0, .slice a n c]).run Tryz.prog w = .ok v w' ∧ Mod (fun _ => False) w w' ∧ OwnK q n B0 v (Grow T w w') w' := by
 subst hn
 obtain ⟨v, w', hap, hO, m, hn⟩ := SlOwn.append keysT (c := c) (SlOwn.nil (f := kc) (n := 32) (E := 82) w B0) hs (by simpa using hq) (by decide) hB 27
 simp only [List.nil_append] at hO
 obtain ⟨a2, c2, e, _⟩ := hO.at keysT
 subst e
 refine ⟨_, w', hap, m.mono (fun _ _ e => by cases e), a2, c2, rfl, hO, fun g hg => ?_⟩
 rcases hn with h | h
 ·rw [hg] at h
  cases h
 ·rw [hg] at h
  cases h
  exact .inr ⟨Nat.le_refl _, (hO.lt _ hg).2⟩
def RowK (b : Nat) (L : List TbR) (v : Value) : Land := fun T w => SlOwn tbr 33 151 w b v L ∧ ∀ g, v.ownBlock = some g → T g
theorem goodRow (b : Nat) (L : List TbR) (v : Value) : Good (RowK b L v) where
 cl := fun T w w' h hm => ⟨h.1.mod hm (fun g hg hn => hn (h.2 g hg)), h.2⟩
 gr := fun T T' w hT h => ⟨h.1, fun g hg => hT g (h.2 g hg)⟩
def BothK (l : List Key) (n bk b : Nat) (L : List TbR) (v u : Value) : Land := fun T w => OwnK l n bk v T w ∧ RowK b L u T w
theorem goodBoth (l : List Key) (n bk b : Nat) (L : List TbR) (v u : Value) : Good (BothK l n bk b L v u) := (goodOK l n bk v).and (goodRow b L u)
def GrwK (l : List Key) (n bk b : Nat) (L : List TbR) (v : Value) (og : Option Nat) (sz : Nat) (u : Value) : Land := fun T w => (OwnK l n bk v T w ∧ RowK b L u T w) ∧ ((∃ a m c, u = .slice a m c) ∧ (u.ownBlock = og ∨ ∃ g, u.ownBlock = some g ∧ sz ≤ g))
theorem goodGrw (l : List Key) (n bk b : Nat) (L : List TbR) (v : Value) (og : Option Nat) (sz : Nat) (u : Value) : Good (GrwK l n bk b L v og sz u) where
 cl := fun T w w' h hm => ⟨(goodBoth l n bk b L v u).cl T w w' h.1 hm, h.2⟩
 gr := fun T T' w hT h => ⟨(goodBoth l n bk b L v u).gr T T' w hT h.1, h.2⟩
theorem keys_keep {b : Nat} {a : Option Addr} {l : List Key} {w w' : World} {S : Nat → Prop} (h : SlAt kc 32 w a l) (hab : l = [] ∨ ∀ g o, a = some ⟨g, o, none⟩ → g < b) (hm : Mod S w w') (hS : ∀ i, i < b → ¬ S i) : SlAt kc 32 w' a l := by
 rcases h with h | ⟨g, o, C, U, fr, ha, hg, hr⟩
 ·exact .inl h
 ·rcases hab with h | h
  ·exact .inl h
  ·exact .inr ⟨g, o, C, U, fr, ha, hm.at hg (hS g (h g o ha)), hr⟩
theorem row_key_ne {b bk : Nat} {L : List TbR} {l : List Key} {u v : Value} {w : World} (h : SlOwn tbr 33 151 w b v L) (h2 : SlOwn kc 32 82 w bk u l) : ∀ g, u.ownBlock = some g → v.ownBlock ≠ some g := fun g hg e => by
 rcases h.2 with ⟨q, _⟩ | ⟨g1, _, cur, q, _, k1, _⟩
 ·rw [q] at e
  cases e
 ·rw [q] at e
  cases e
  rcases h2.2 with ⟨q2, _⟩ | ⟨g2, _, cur2, q2, _, k2, _⟩
  ·rw [q2] at hg
   cases hg
  ·rw [q2] at hg
   cases hg
   rw [k1] at k2
   cases k2
theorem grow_row {l : List Key} {n bk b sz p : Nat} {L : List TbR} {v u : Value} {T : Nat → Prop} {w : World} {x : TbR} (h : BothK l n bk b L v u T w) (hp : w.heap[p]? = some (.cells (tbr x) 151 (0, 0))) (hL : L.length ≤ 1000) (hb : b ≤ w.heap.size) (hs : sz ≤ w.heap.size) :
  ∃ v5 w5, (Builtin.append_ #[94, 94] 94 #[u, .slice (some ⟨p, 0, none⟩) 1 1]).run Tryz.prog w = .ok v5 w5 ∧ Mod T w w5 ∧ GrwK l n bk b (L ++ [x]) v (u.ownBlock) sz v5 (Grow T w w5) w5 := by
 obtain ⟨⟨a1, c1, e1, o1, o2⟩, r1, r2⟩ := h
 obtain ⟨v5, w5, h1, h3, h2, h4⟩ := SlOwn.append tbT (q := [x]) (c := 1) r1 (SlAt.one hp x rfl (tbr_size _)) (by simp; omega) (by decide) hb 94
 obtain ⟨a5, c5, e5, _⟩ := h3.at tbT
 refine ⟨v5, w5, h1, h2.mono (fun i _ e => r2 i e), ⟨⟨a1, c1, e1, o1.mod h2 (fun g hg e => row_key_ne r1 o1 g hg e), fun g hg => .inl (o2 g hg)⟩, h3, fun g hg => ?_⟩, ⟨a5, _, c5, e5⟩, ?_⟩
 ·rcases h4 with h4 | h4
  ·rw [h4] at hg
   exact .inl (r2 g hg)
  ·rw [h4] at hg
   cases hg
   exact .inr ⟨Nat.le_refl _, (h3.lt _ h4).2⟩
 ·rcases h4 with h4 | h4
  ·exact .inl h4
  ·exact .inr ⟨_, h4, hs⟩
set_option maxRecDepth 20000 in
set_option maxHeartbeats 3200000 in
theorem rput_c {b m : Nat} {T : TbL} {v : Value} (k : Key) (a : Option Addr) (l : List Key) (c : Nat) (w : World) (H : RfA b m T v w) (hT : T.length ≤ 1000) (hl : SlAt kc 32 w a l) (hab : l = [] ∨ ∀ g o, a = some ⟨g, o, none⟩ → g < b) (hln : l.length ≤ 1000000) (hb : b ≤ w.heap.size) :
  Calls Tryz.prog 44 #[pV m, .agg (kc k), .slice a l.length c] w fun e w' => (∃ x : Int, e = .returned (.int .i64 x)) ∧ ∃ v', RfA b m (tbPut T k l) v' w' ∧ RfC m v v' w w' := by
 have HG := Lib.hid (And.intro H (And.intro hl hb))
 have HAB := Lib.hid hab
 obtain ⟨n, hn⟩ : ∃ n, l.length = n := ⟨_, rfl⟩
 have HN := Lib.hid hn
 have HT := Lib.hid hT
 rw [hn] at hln ⊢
 clear H hl hb hn hT hab
 go_enter Tryz.func44, Tryz.ntmps44
 go_upto_region 0 with fail
 refine wp_pass0 (C := fun _ _ _ => False) (κ := fun i => [3, 0].getD i 0) [0, 1] (by kernel_rfl) (by kernel_rfl) (fun _ _ d _ _ h => by cases d <;> first | exact h | exact absurd h (hP _ _ _)) ?_
 (refine TD.box (v := ?v36) (by simp only [zK]; rfl) rfl (by rfl) rfl rfl ?hx36 (fun p4 hp4 => ?n36); (case hx36 => simp only [Act.eval, zM]; try rfl); try simp only [Act.put, zL])
 (refine TD.val0 (v := ?_) (by simp only [zK]; rfl) rfl (by rfl) (fun w1 => ?_) ?_; rotate_left; (next => go_simp; try with_reducible rfl); try simp only [Act.put, zL])
 refine TD.nil (fun w1 hr => ?_)
 have kp4 := hr.box p4 _ (by first | exact Bx.set_same _ _ _ | (simp only [Bx.set_same]; rfl)); dsimp only [Value.cells] at kp4; obtain ⟨gp4, kp4⟩ := kp4
 have HM1 := Lib.hid hr.mod
 clear hr
 by_cases h0 : n < 1
 ·have hd := decide_eq_true h0
  have hd1 : decide ((n : Int) < 1) = true := decide_eq_true (by omega)
  have HE : Hid (tbPut T k l = T) := Lib.hid (if_pos (.inl (by rw [HN.out]; omega)))
  go_wp2_with fail
  go_ret
  exact ⟨⟨_, rfl⟩, v, by rw [HE.out]; exact HG.out.1.mod0 HM1.out, HM1.out.mono (fun _ _ h => h.elim), .inl rfl⟩
 ·have hd := decide_eq_false h0
  have hd1 : decide ((n : Int) < 1) = false := decide_eq_false (by omega)
  by_cases h2 : 256 < n
  ·have hd2 := decide_eq_true h2
   have hd3 : decide ((n : Int) > 256) = true := decide_eq_true (by omega)
   have HE : Hid (tbPut T k l = T) := Lib.hid (if_pos (.inr (by rw [HN.out]; omega)))
   go_wp2_with fail
   go_ret
   exact ⟨⟨_, rfl⟩, v, by rw [HE.out]; exact HG.out.1.mod0 HM1.out, HM1.out.mono (fun _ _ h => h.elim), .inl rfl⟩
  ·have hd2 := decide_eq_false h2
   have hd3 : decide ((n : Int) > 256) = false := decide_eq_false (by omega)
   have hd4 : decide ((256 : Int) < (n : Int)) = false := decide_eq_false (by omega)
   have HNB : Hid (¬ (l.length = 0 ∨ 256 < l.length) ∧ l.length ≤ 256) := Lib.hid ⟨by rw [HN.out]; omega, by rw [HN.out]; omega⟩
   clear h0 h2
   have hF := rfind_c k w1 (HG.out.1.mod0 HM1.out) (by have := HT.out; omega)
   go_upto_region 3 with fail
   refine region_seq 8 rfl ?_
   simp only [List.range, List.range.loop]
   (refine sq_val (v := ?_) (by simp only [zK]; rfl) (by rfl) ?_ ?_; rotate_left; (next => go_simp; try with_reducible rfl); try simp only [Act.put, zL])
   (refine sq_load (v := ?v39) (p := ?p39) (by simp only [zK]; rfl) (by rfl) rfl ?hx39 ?y39 ?n39; (case hx39 => simp only [Act.eval, zM]; try rfl); (case y39 => go_simp; try with_reducible rfl); try simp only [Act.put, zL])
   (refine sq_callT (by simp only [zK]; rfl) (by rfl) ?y40 hF ?hout (fun vn wn hR => ?hret) (fun ch wn hR => ?hpan); (case y40 => (go_simp; (try (first | with_reducible rfl | (constructor <;> with_reducible rfl))))))
   case hout =>
    rintro w' ⟨_, h⟩
    split at h
    ·obtain ⟨_, h, _⟩ := h
     cases h
    ·cases h
   case hpan =>
    exfalso
    obtain ⟨_, h⟩ := hR
    split at h
    ·obtain ⟨_, h, _⟩ := h
     cases h
    ·cases h
   case hret =>
   obtain ⟨hm, hr⟩ := hR
   have HM2 := Lib.hid (HM1.out.trans hm)
   replace kp4 := hm.at0 kp4
   clear hF hm
   cases hf : tbFind T k with
   | some l2 =>
    rw [hf] at hr
    obtain ⟨v2, e0, -⟩ := hr
    cases e0
    have HE : Hid (tbPut T k l = T) := Lib.hid (by unfold tbPut; rw [if_neg HNB.out.1, hf]; rfl)
    clear hf
    (try simp only [Act.put, zL])
    iterate 5 (refine sq_val (v := ?_) (by simp only [zK]; rfl) (by rfl) ?_ ?_; rotate_left; (next => go_simp; try with_reducible rfl); try simp only [Act.put, zL])
    refine sq_nil ?_
    go_wp2_with fail
    go_ret
    exact ⟨⟨_, rfl⟩, v, by rw [HE.out]; exact HG.out.1.mod0 HM2.out, HM2.out.mono (fun _ _ h => h.elim), .inl rfl⟩
   | none =>
    rw [hf] at hr
    cases hr
    have HE : Hid (tbPut T k l = T ++ [(k, l)]) := Lib.hid (by unfold tbPut; rw [if_neg HNB.out.1, hf]; rfl)
    clear hf
    (try simp only [Act.put, zL])
    iterate 5 (refine sq_val (v := ?_) (by simp only [zK]; rfl) (by rfl) ?_ ?_; rotate_left; (next => go_simp; try with_reducible rfl); try simp only [Act.put, zL])
    refine sq_nil ?_
    obtain ⟨w2, rfl⟩ : ∃ w2 : World, w2 = wn := ⟨_, rfl⟩
    have HR2 := Lib.hid (HG.out.1.mod0 HM2.out)
    obtain ⟨L, kr, hrow, hT, hall, hmb⟩ := HR2.out
    obtain ⟨va, vc, rfl, -⟩ := hrow.at tbT
    obtain ⟨ln, hln2⟩ : ∃ ln, L.length = ln := ⟨_, rfl⟩
    have HL := Lib.hid (And.intro hrow (And.intro hT (And.intro hall (And.intro hmb hln2))))
    rw [hln2] at kr
    have hby := fun a1 c1 => bTbl k a1 l n c1 HN.out
    clear hrow hT hall hmb hln2
    go_upto_region 6 with fail
    have hrow2 := HL.out.1
    rw [HL.out.2.2.2.2] at hrow2
    have hnm : ¬ ((Value.slice va ln vc).ownBlock = some m) := fun e => by
     have := (hrow2.lt m e).1
     have := HL.out.2.2.2.1
     omega
    have hnp : ¬ ((Value.slice va ln vc).ownBlock = some p4) := fun e => by
     rcases hrow2.2 with ⟨h2, _⟩ | ⟨g2, cap, cur, h2, _, h3, _⟩
     ·rw [h2] at e
      cases e
     ·rw [h2] at e
      cases e
      rw [h3] at kp4
      cases kp4
    have HROW := Lib.hid hrow2
    have hl2 := HG.out.2.1.mod0 HM2.out
    have HL2 := Lib.hid hl2
    have hTl : L.length ≤ 1000 := by have := HL.out.2.1; have := congrArg List.length this; rw [List.length_map] at this; have := HT.out; omega
    clear hrow2 hl2
    have Lkr := lt_size kr
    have Lkp4 := lt_size kp4
    refine wp_epass (T0 := fun i => (Value.slice va ln vc).ownBlock = some i) (K := RowK b L (.slice va ln vc)) (κ := fun i => [0, 0, 0, 0, 0, 0, 0, 6, 0, 3, 6, 0, 0, 6].getD i 0) (υ := fun i => [[], [], [], [], [], [], [], [], [], [], [34], [], [], []].getD i []) [0, 1, 2, 3, 4, 5, 6, 7, 8, 9, 10] [11, 12, 13] (by kernel_rfl) (by kernel_rfl) (goodRow b L (.slice va ln vc)).cl (⟨HROW.out, fun g hg => hg⟩) (fun i hi => (HROW.out.lt i hi).2) ?_
    have gK := goodRow b L (.slice va ln vc)
    iterate 4 (refine TG.v0 (v := ?_) (by simp only [zK]; rfl) rfl (by rfl) (fun w1 => ?_) ?_; rotate_left; (next => go_simp; try with_reducible rfl); try simp only [Act.put, zL])
    (refine TG.load (v := ?v55) (p := ?p55) (by simp only [zK]; rfl) rfl (by rfl) rfl ?hx55 (fun wq hSq => ?y55) ?n55; (case hx55 => simp only [Act.eval, zM]; try rfl); (case y55 => (have krq := hSq.at kr (by intro hT; first | exact hT | exact absurd hT (by assumption) | omega | (simp only at hT; omega)); have kp4q := hSq.at kp4 (by intro hT; first | exact hT | exact absurd hT (by assumption) | omega | (simp only at hT; omega)); go_simp; (try with_reducible rfl))); try simp only [Act.put, zL])
    (refine TG.load (v := ?v56) (p := ?p56) (by simp only [zK]; rfl) rfl (by rfl) rfl ?hx56 (fun wq hSq => ?y56) ?n56; (case hx56 => simp only [Act.eval, zM]; try rfl); (case y56 => (have krq := hSq.at kr (by intro hT; first | exact hT | exact absurd hT (by assumption) | omega | (simp only at hT; omega)); have kp4q := hSq.at kp4 (by intro hT; first | exact hT | exact absurd hT (by assumption) | omega | (simp only at hT; omega)); go_simp; (try with_reducible rfl))); try simp only [Act.put, zL])
    (refine TG.v0 (v := ?_) (by simp only [zK]; rfl) rfl (by rfl) (fun w1 => ?_) ?_; rotate_left; (next => go_simp; try with_reducible rfl); try simp only [Act.put, zL])
    (refine TG.appK (X := ?X58) (Y := ?Y58) (fun v1 => BothK l n w2.heap.size b L v1 (.slice va ln vc)) (fun v1 => goodBoth l n w2.heap.size b L v1 (.slice va ln vc)) (by simp only [zK]; rfl) rfl (by rfl) rfl ?hx58 ?hz58 (fun T wq kq ltq hSq ub => ?y58) ?n58; (case hx58 => simp only [Act.eval, zM]; try rfl); (case hz58 => simp only [Act.eval, zM]; try rfl); (case y58 => (have krq := hSq.at kr (by intro hT; first | exact hT | exact absurd hT (by assumption) | omega | (simp only at hT; omega)); have kp4q := hSq.at kp4 (by intro hT; first | exact hT | exact absurd hT (by assumption) | omega | (simp only at hT; omega)); obtain ⟨v, w', h1, h2, h3⟩ := app_nilK (c := c) (T := T) (n := n) (B0 := w2.heap.size) (keys_keep HL2.out HAB.out hSq (fun i hi e => by have := (HROW.out.lt i e).1; omega)) (by rw [HN.out]; exact hln) HN.out hSq.size; exact ⟨v, w', h1, h2.mono (fun _ _ e => e.elim), h3, kq.1.mod0 h2, fun g hg => .inl (kq.2 g hg)⟩)); rintro v58 ⟨wI, TI, hI⟩; replace gK := (fun v1 => goodBoth l n w2.heap.size b L v1 (.slice va ln vc)) v58; obtain ⟨a1, c1, rfl, -, -⟩ := hI.k.1; (try clear hI TI wI); try simp only [Act.put, zL])
    (refine TG.build (v := ?v59) (ps := ?p59) (by simp only [zK]; rfl) rfl (by rfl) rfl ?hx59 (fun w1 => ?y59) ?n59; (case hx59 => (simp only [List.map_toArray, List.map_cons, List.map_nil, Act.eval, zM]; (try rfl))); (case y59 => (rw [(hby a1 c1)]; (try with_reducible rfl))); try simp only [Act.put, zL])
    (refine TG.bslice (by simp only [zK]; rfl) rfl (by rfl) rfl rfl ?hx60 (bsTbl ⟨k, ⟨a1, l, c1⟩⟩) (fun p34 hp34 _ => ?n60); (case hx60 => (simp only [List.map_toArray, List.map_cons, List.map_nil, Act.eval, zM]; (try rfl))); try simp only [Act.put, zL])
    (refine TG.appK (X := ?X61) (Y := ?Y61) (fun u => GrwK l n w2.heap.size b (L ++ [⟨k, ⟨a1, l, c1⟩⟩]) (.slice a1 n c1) ((Value.slice va ln vc).ownBlock) w2.heap.size u) (fun u => goodGrw l n w2.heap.size b (L ++ [⟨k, ⟨a1, l, c1⟩⟩]) (.slice a1 n c1) ((Value.slice va ln vc).ownBlock) w2.heap.size u) (by simp only [zK]; rfl) rfl (by rfl) rfl ?hx61 ?hz61 (fun T wq kq ltq hSq ub => ?y61) ?n61; (case hx61 => simp only [Act.eval, zM]; try rfl); (case hz61 => simp only [Act.eval, zM]; try rfl); (case y61 => (have krq := hSq.at kr (by intro hT; first | exact hT | exact absurd hT (by assumption) | omega | (simp only at hT; omega)); have kp4q := hSq.at kp4 (by intro hT; first | exact hT | exact absurd hT (by assumption) | omega | (simp only at hT; omega)); have kp34 := ub.box (p := p34) (by first | exact Bx.set_same _ _ _ | (simp only [Bx.set_same]; rfl)) (by first | decide | exact List.mem_singleton.2 rfl | simp); dsimp only [Value.cells] at kp34; have nUp34 := (ub p34 _ (by first | exact Bx.set_same _ _ _ | (simp only [Bx.set_same]; rfl)) (by first | decide | exact List.mem_singleton.2 rfl | simp)).1; exact grow_row kq kp34 hTl (Nat.le_trans HG.out.2.2 (Nat.le_trans HM2.out.size hSq.size)) hSq.size)); rintro v61 ⟨wI, TI, hI⟩; replace gK := (fun u => goodGrw l n w2.heap.size b (L ++ [⟨k, ⟨a1, l, c1⟩⟩]) (.slice a1 n c1) ((Value.slice va ln vc).ownBlock) w2.heap.size u) v61; obtain ⟨a5, q5, c5, rfl⟩ := hI.k.2.1; (try clear hI TI wI); try simp only [Act.put, zL])
    refine TG.nil (fun w3 ⟨TR, hr⟩ => ?_)
    replace kr := hr.mod.at kr (by intro hT; first | exact hT | exact absurd hT (by assumption) | omega | (simp only at hT; omega))
    replace kp4 := hr.mod.at kp4 (by intro hT; first | exact hT | exact absurd hT (by assumption) | omega | (simp only at hT; omega))
    have kp34 := hr.box p34 _ (by first | exact Bx.set_same _ _ _ | (simp only [Bx.set_same]; rfl)); dsimp only [Value.cells] at kp34; obtain ⟨gp34, nTp34, kp34⟩ := kp34
    clear gK
    obtain ⟨⟨⟨ax, cx, ex, hO1, -⟩, hO5, -⟩, -, hn5⟩ := hr.k
    injection ex with ex1 _ ex3
    subst ex1 ex3
    have HF := Lib.hid (And.intro hO1 (And.intro hO5 (And.intro hn5 hr.mod)))
    have hall3 : ∀ x ∈ L, SlAt kc 32 w3 x.s.a x.s.l ∧ x.s.l.length ≤ 256 ∧ ∀ g o, x.s.a = some ⟨g, o, none⟩ → b ≤ g ∧ g < w3.heap.size ∧ ∃ C, w3.heap[g]? = some (.cells C 82 (0, 0)) := fun x hx => by
     obtain ⟨s1, s2, s3⟩ := HL.out.2.2.1 x hx
     have hne : ∀ g C, w2.heap[g]? = some (.cells C 82 (0, 0)) → ¬ ((Value.slice va ln vc).ownBlock = some g) := fun g C hg e => by
      rcases HROW.out.2 with ⟨h2, _⟩ | ⟨g2, cap, cur, h2, _, h3, _⟩
      ·rw [h2] at e
       cases e
      ·rw [h2] at e
       cases e
       rw [h3] at hg
       cases hg
     refine ⟨?_, s2, fun g o e => ?_⟩
     ·rcases s1 with h | ⟨g, o, C, U, fr, ha, hg, hr2⟩
      ·exact .inl h
      ·obtain ⟨q1, q2, C2, q3⟩ := s3 g o ha
       exact .inr ⟨g, o, C, U, fr, ha, hr.mod.at hg (hne g C2 q3), hr2⟩
     ·obtain ⟨q1, q2, C2, q3⟩ := s3 g o e
      exact ⟨q1, Nat.lt_of_lt_of_le q2 hr.mod.size, C2, hr.mod.at q3 (hne g C2 q3)⟩
    have HALL := Lib.hid hall3
    clear hr hO1 hO5 hn5 hall3 hTl
    (refine TE.val0 (v := ?v62) (by simp only [zK]; rfl) (by rfl) (fun w1 => ?y62) ?n62; (case y62 => go_simp; try with_reducible rfl); try simp only [Act.put, zL])
    (refine TE.val0 (v := ?v63) (by simp only [zK]; rfl) (by rfl) (fun w1 => ?y63) ?n63; (case y63 => go_simp; try with_reducible rfl); try simp only [Act.put, zL])
    refine TE.step (by simp only [zK]; rfl) rfl ?_
    (refine eff_store (X := ?X64) (Y := ?Y64) (w' := ?w64) (by simp only [zK]; rfl) (by rfl) rfl ?hx64 ?hz64 ?y64 ?n64; (case hx64 => simp only [Act.eval, zM]; try rfl); (case hz64 => simp only [Act.eval, zM]; try rfl); (case y64 => go_simp; try with_reducible rfl))
    (first | refine TE.nil_set kr (fun wn kr mS => ?_) | refine TE.nil_setCell kr (fun wn kr mS => ?_))
    have HKR := Lib.hid kr
    have HMS := Lib.hid mS
    clear kr mS
    go_wp2_with fail
    go_ret
    obtain ⟨hO1, hO5, hn5, hm3⟩ := HF.out
    have hlen : L.length + 1 = q5 ∨ True := .inr trivial
    refine ⟨⟨_, rfl⟩, .slice a5 q5 c5, ?_, ?_, ?_⟩
    ·rw [HE.out]
     have hkeep : ∀ (x : TbR), SlAt kc 32 w3 x.s.a x.s.l → (∀ g o, x.s.a = some ⟨g, o, none⟩ → b ≤ g ∧ g < w3.heap.size ∧ ∃ C, w3.heap[g]? = some (.cells C 82 (0, 0))) → SlAt kc 32 wn x.s.a x.s.l ∧ ∀ g o, x.s.a = some ⟨g, o, none⟩ → b ≤ g ∧ g < wn.heap.size ∧ ∃ C, wn.heap[g]? = some (.cells C 82 (0, 0)) := fun x s1 s3 => by
      have hne : ∀ g o, x.s.a = some ⟨g, o, none⟩ → ¬ (g = m) := fun g o e e2 => by
       have := (s3 g o e).1
       have := HL.out.2.2.2.1
       omega
      refine ⟨?_, fun g o e => ?_⟩
      ·rcases s1 with h | ⟨g, o, C, U, fr, ha, hg, hr⟩
       ·exact .inl h
       ·exact .inr ⟨g, o, C, U, fr, ha, HMS.out.at hg (hne g o ha), hr⟩
      ·obtain ⟨q1, q2, C2, q3⟩ := s3 g o e
       exact ⟨q1, Nat.lt_of_lt_of_le q2 HMS.out.size, C2, HMS.out.at q3 (hne g o e)⟩
     refine ⟨L ++ [⟨k, ⟨a1, l, c1⟩⟩], by rw [HKR.out]; simp, hO5.mod HMS.out (fun g hg e => ?_), by rw [List.map_append, HL.out.2.1]; rfl, fun x hx => ?_, HL.out.2.2.2.1⟩
     ·have e2 : g = m := e
      have := (hO5.lt g hg).1
      have := HL.out.2.2.2.1
      omega
     ·rcases List.mem_append.1 hx with hx | hx
      ·obtain ⟨s1, s2, s3⟩ := HALL.out x hx
       obtain ⟨r1, r3⟩ := hkeep x s1 s3
       exact ⟨r1, s2, r3⟩
      ·rw [List.mem_singleton.1 hx]
       obtain ⟨a9, c9, e9, s9, _⟩ := hO1.at keysT
       injection e9 with e9 _ _
       obtain ⟨r1, r3⟩ := hkeep ⟨k, ⟨a1, l, c1⟩⟩ (by rw [e9]; exact s9) (fun g o e => by
        have e' : a1 = some ⟨g, o, none⟩ := e
        rcases hO1.2 with ⟨h2, _⟩ | ⟨g2, cap, cur, h2, h4, h3, _⟩
        ·injection h2 with h2
         rw [h2] at e'
         cases e'
        ·injection h2 with h2
         rw [h2] at e'
         cases e'
         exact ⟨Nat.le_trans HG.out.2.2 (Nat.le_trans HM2.out.size h4), lt_size h3, cur, h3⟩)
       exact ⟨r1, HNB.out.2, r3⟩
    ·rw [HL.out.2.2.2.2]
     exact ((HM2.out.mono (fun _ _ h => h.elim)).trans (hm3.mono (fun i _ e => .inr e))).trans (HMS.out.mono (fun i _ e => .inl e))
    ·rcases hn5 with h | ⟨g, h, h2⟩
     ·left
      rw [h, HL.out.2.2.2.2]
     ·exact .inr ⟨g, h, Nat.le_trans HM2.out.size h2⟩
end Go.Proofs.YtiaehkkkcaeaiaaGreatDoor
namespace Go.Proofs.YtiaehkkkcaeaiaaGreatDoor
open Go.RowKit
open Go.ChangeShapes Go.WideShapes Go.ChangeAt
def SlOkN {α : Type} (f : α → Array Value) (n B : Nat) (Ok : World → α → Prop) (w : World) (s : Sl α) : Prop := SlOk f n B Ok w s ∧ s.l.length ≤ s.c ∧ (s.a = none → s.c = 0)
theorem slice_readsN {α H : Type} {enc : TypeId × Value → H} {P : Program} {t e : TypeId} {f : α → Array Value} {n B : Nat} {Ok : World → α → Prop} (ht : P.underlying t = some (.slice e)) (hn : P.cellsOf e = n) (hB : P.bytesOf e = B) (hn0 : 0 < n) (h : Reads enc P e f Ok) (d0 : α) :
  Reads enc P t (slv (α := α)) (SlOkN f n B Ok) := by
 intro w base sp held fuel cs x hx hfit
 obtain ⟨s, hs, hok⟩ := slice_reads ht hn hB hn0 h d0 w base sp held fuel cs x hx hfit
 refine ⟨s, hs, hok, ?_⟩
 rcases DataW.trod_slice ht hx with ⟨hcs, _⟩ | ⟨a, len, cap, elems, rest, m, _, hcs, _, _, hlc, _⟩
 ·rw [hcs] at hs
  have hs : [Value.slice none 0 0] = [.slice s.a s.l.length s.c] := congrArg Array.toList hs
  simp only [List.cons.injEq, Value.slice.injEq, and_true] at hs
  obtain ⟨h1, h2, h3⟩ := hs
  exact ⟨by omega, fun _ => h3.symm⟩
 ·rw [hcs] at hs
  have hs : [Value.slice (some a) len cap] = [.slice s.a s.l.length s.c] := congrArg Array.toList hs
  simp only [List.cons.injEq, Value.slice.injEq, and_true] at hs
  obtain ⟨h1, h2, h3⟩ := hs
  exact ⟨by omega, fun e => by rw [e] at h1; cases h1⟩
section
variable {H : Type} {enc : TypeId × Value → H}
theorem keysN_reads : Reads enc Tryz.prog 27 (slv (α := Key)) (SlOkN kc 32 32 (fun _ _ => True)) :=
 slice_readsN Tryz.underlying27 (by kernel_rfl) (by kernel_rfl) (by omega) key_reads key0
def TaOk (w : World) (x : TbR) : Prop := SlOkN kc 32 32 (fun _ _ => True) w x.s
theorem ta_reads : Reads enc Tryz.prog 93 tbr TaOk := fun w base sp held fuel cs x h hfit => by
 obtain ⟨a0, h0, k0⟩ := field_read 0 0 32 Tryz.underlying93 rfl (by kernel_rfl) key_reads h hfit
 obtain ⟨a1, h1, k1⟩ := field_read 1 32 1 Tryz.underlying93 rfl (by kernel_rfl) keysN_reads h hfit
 have hl := len_of (n := 33) Tryz.underlying93 (by kernel_rfl) h
 refine ⟨⟨a0, a1⟩, ?_, k1⟩
 apply Array.toList_inj.1
 show cs = _
 have e := cut_at cs 0 32
 rw [cut_at cs (0 + 32) 1, h0, h1, end_at (n := 0 + 32 + 1) hl] at e
 refine e.trans ?_
 simp [tbr, kx, slv, Sl.v]
theorem tas_reads : Reads enc Tryz.prog 51 (slv (α := TbR)) (SlOk tbr 33 56 TaOk) :=
 slice_reads Tryz.underlying51 (by kernel_rfl) (by kernel_rfl) (by omega) ta_reads ⟨key0, ⟨none, [], 0⟩⟩
end
end Go.Proofs.YtiaehkkkcaeaiaaGreatDoor
namespace Go.Proofs.YtiaehkkkcaeaiaaGreatDoor
open Go.RowKit
open Go.ChangeMaps (setBlock)
attribute [local go_sem ↓] wlKey ldKey stKey ldSg stSg wlTc ldTc stTc eqKey1
attribute [local go_sem] cell_blk frozen_blk kc_ext one_int one_bool one_ptr one_slice one_map kc_one kc_one0 kc_size zKey_size sgc_size sgc_ext sgc_one0 sgc_one' txr_size txr_all txr_one txr_one' txr0 txr38 txr39 txr0' txr38' txr39' zTx_size Value.cells
attribute [local go_sem] tbr_size zTb_size
def greatB (n : Nat) (l : List TbR) : Bool := decide (5000 < n) || (decide (20 < l.length) || l.any (fun x => decide (400 < x.s.l.length)))
set_option maxRecDepth 20000 in
set_option maxHeartbeats 3200000 in
theorem great_c (ba : Option Addr) (bn bc : Nat) (a : Option Addr) (l : List TbR) (c : Nat) (w : World) (hl : SlAt tbr 33 w a l) :
  Calls Tryz.prog 11 #[.slice ba bn bc, .slice a l.length c] w fun e w' => e = .returned (.bool (greatB bn l)) ∧ Mod (fun _ => False) w w' := by
 have HL := Lib.hid hl
 obtain ⟨n, hn⟩ : ∃ n, l.length = n := ⟨_, rfl⟩
 have HN := Lib.hid hn
 rw [hn]
 clear hl hn
 go_enter Tryz.func11, Tryz.ntmps11
 by_cases h1 : 5000 < bn
 ·have hd := decide_eq_true h1
  have hd1 : decide ((bn : Int) > 5000) = true := decide_eq_true (by omega)
  have HE : Hid (greatB bn l = true) := Lib.hid (by unfold greatB; rw [hd]; rfl)
  go_wp2_with fail
  go_ret
  exact ⟨by rw [HE.out]; rfl, Mod.refl _ _⟩
 ·have hd := decide_eq_false h1
  have hd1 : decide ((bn : Int) > 5000) = false := decide_eq_false (by omega)
  have hd1' : decide ((5000 : Int) < (bn : Int)) = false := decide_eq_false (by omega)
  by_cases h2 : 20 < n
  ·have hd2 := decide_eq_true h2
   have hd3 : decide ((n : Int) > 20) = true := decide_eq_true (by omega)
   have HE : Hid (greatB bn l = true) := Lib.hid (by unfold greatB; rw [hd, HN.out, hd2]; rfl)
   go_wp2_with fail
   go_ret
   exact ⟨by rw [HE.out]; rfl, Mod.refl _ _⟩
  ·have hd2 := decide_eq_false h2
   have hd3 : decide ((n : Int) > 20) = false := decide_eq_false (by omega)
   have hd4 : decide ((20 : Int) < (n : Int)) = false := decide_eq_false (by omega)
   have HE : Hid (greatB bn l = l.any (fun x => decide (400 < x.s.l.length))) := Lib.hid (by unfold greatB; rw [hd, HN.out, hd2]; rfl)
   have hnb : n ≤ 20 := by omega
   clear h1 h2
   go_wp2_with fail
   clear hd hd1 hd1' hd2 hd3 hd4
   go_loopw [5] (fun s5 ws => ∃ i : Nat, i ≤ n ∧ s5 = .int .i64 (i : Int) ∧ Hid ((l.take i).any (fun x => decide (400 < x.s.l.length)) = false) ∧ Hid (Mod (fun _ => False) w ws)) (fun s5 _ => n - (intOf s5).toNat)
   case atStart => exact ⟨0, Nat.zero_le _, rfl, Lib.hid rfl, Lib.hid (Mod.refl _ _)⟩
   case round =>
    obtain ⟨i, hi, rfl, HA, HM⟩ := hrel
    by_cases hlt : i < n
    ·have hd := decide_eq_true hlt
     obtain ⟨y, hy⟩ : ∃ y, l[i]? = some y := ⟨_, List.getElem?_eq_getElem (by have := HN.out; omega)⟩
     obtain ⟨g, o, C, U, fr, rfl, kg, he, hle⟩ := (HL.out.mod0 HM.out).block hy
     obtain ⟨ys, hys⟩ : ∃ n, y.s.l.length = n := ⟨_, rfl⟩
     have hks : C[o + i * 33 + 32]? = some (.slice y.s.a ys y.s.c) := by rw [← hys]; exact cellC he (j := 32) (tbr32 y)
     have HY := Lib.hid (And.intro hy hys)
     clear hy he hys
     by_cases h4 : 400 < ys
     ·have h5 := decide_eq_true h4
      have h6 : decide ((ys : Int) > 400) = true := decide_eq_true (by omega)
      have HF : Hid (greatB bn l = true) := Lib.hid (by rw [HE.out]; exact List.any_eq_true.2 ⟨y, List.mem_of_getElem? HY.out.1, by rw [HY.out.2]; exact h5⟩)
      clear h4
      go_upto_region 6 with fail
      have Lkg := lt_size kg
      refine wp_pass0 (C := fun _ _ _ => False) (κ := fun i => [0, 0, 0, 0, 1, 0, 0].getD i 0) [0, 1, 2, 3, 4, 5, 6] (by kernel_rfl) (by kernel_rfl) (fun _ _ d _ _ h => by cases d <;> first | exact h | exact absurd h (hP _ _ _)) ?_
      iterate 7 first | (refine TD.val0 (v := ?_) (by simp only [zK]; rfl) rfl (by rfl) (fun w1 => ?_) ?_; rotate_left; (next => go_simp; try with_reducible rfl); try simp only [Act.put, zL]) | (refine TD.load (v := ?_) (p := ?_) (Mod.refl _ _) (by simp only [zK]; rfl) rfl (by rfl) rfl ?_ (fun wq hSq => ?_) ?_; rotate_left 2; (next => simp only [Act.eval, zM]; try rfl); (next => have kgq := hSq.at kg (fun h => h); go_simp; try with_reducible rfl); try simp only [Act.put, zL])
      refine TD.nil (fun w4 hr => ?_)
      replace kg := hr.mod.at kg (fun h => h)
      have HM4 := Lib.hid (HM.out.then0 hr.mod)
      clear hr
      go_wp2_with fail
      go_ret
      exact ⟨by rw [HF.out]; rfl, HM4.out⟩
     ·have h5 := decide_eq_false h4
      have h6 : decide ((ys : Int) > 400) = false := decide_eq_false (by omega)
      have h7 : decide ((400 : Int) < (ys : Int)) = false := decide_eq_false (by omega)
      have HA2 : Hid ((l.take (i + 1)).any (fun x => decide (400 < x.s.l.length)) = false) := Lib.hid (by
       rw [List.take_add_one, HY.out.1, List.any_append, HA.out]
       simp [HY.out.2]
       omega)
      clear h4
      go_upto_region 6 with fail
      have Lkg := lt_size kg
      refine wp_pass0 (C := fun _ _ _ => False) (κ := fun i => [0, 0, 0, 0, 1, 0, 0].getD i 0) [0, 1, 2, 3, 4, 5, 6] (by kernel_rfl) (by kernel_rfl) (fun _ _ d _ _ h => by cases d <;> first | exact h | exact absurd h (hP _ _ _)) ?_
      iterate 7 first | (refine TD.val0 (v := ?_) (by simp only [zK]; rfl) rfl (by rfl) (fun w1 => ?_) ?_; rotate_left; (next => go_simp; try with_reducible rfl); try simp only [Act.put, zL]) | (refine TD.load (v := ?_) (p := ?_) (Mod.refl _ _) (by simp only [zK]; rfl) rfl (by rfl) rfl ?_ (fun wq hSq => ?_) ?_; rotate_left 2; (next => simp only [Act.eval, zM]; try rfl); (next => have kgq := hSq.at kg (fun h => h); go_simp; try with_reducible rfl); try simp only [Act.put, zL])
      refine TD.nil (fun w4 hr => ?_)
      replace kg := hr.mod.at kg (fun h => h)
      have HM4 := Lib.hid (HM.out.then0 hr.mod)
      clear hr hks
      go_wp2_with fail
      go_roundw
      case rel => exact ⟨i + 1, by omega, by go_num, HA2, HM4⟩
      case measure => simp [intOf]; omega
    ·have hd := decide_eq_false hlt
     have HF : Hid (greatB bn l = false) := Lib.hid (by
      rw [HE.out]
      have := HA.out
      rw [List.take_of_length_le (by have := HN.out; omega)] at this
      exact this)
     clear hlt
     go_wp2_with fail
     go_ret
     exact ⟨by rw [HF.out]; rfl, HM.out⟩
def laidT (l : List TbR) : TbL := l.foldl (fun T x => tbPut T x.k x.s.l) []
theorem laidT_snoc {l : List TbR} {i : Nat} {x : TbR} (h : l[i]? = some x) : laidT (l.take (i + 1)) = tbPut (laidT (l.take i)) x.k x.s.l := by
 unfold laidT
 rw [List.take_add_one, h]
 simp
theorem tbPut_len (T : TbL) (k : Key) (l : List Key) : (tbPut T k l).length ≤ T.length + 1 := by
 unfold tbPut
 split
 ·omega
 ·split
  ·omega
  ·simp
theorem laidT_len (l : List TbR) (i : Nat) : (laidT (l.take i)).length ≤ i := by
 induction i with
 | zero => simp [laidT]
 | succ i ih =>
  by_cases h : i < l.length
  ·rw [laidT_snoc (List.getElem?_eq_getElem h)]
   have := tbPut_len (laidT (l.take i)) (l[i]).k (l[i]).s.l
   omega
  ·have e1 : l.take (i + 1) = l := List.take_of_length_le (by omega)
   have e2 : l.take i = l := List.take_of_length_le (by omega)
   rw [e1]
   rw [e2] at ih
   omega
theorem RegA.modY {b h r : Nat} {T : TbL} {w w' : World} {S : Nat → Prop} (H : RegA b h r T w) (hm : Mod S w w') (hS : ∀ i, S i → ∃ C E, w.heap[i]? = some (.cells C E (0, 0)) ∧ E ≠ 48 ∧ E ≠ 82) : RegA b h r T w' := by
 obtain ⟨M, H1, H2, H3, H4, H5⟩ := H
 have hh : ¬ S h := fun s => by
  obtain ⟨C, E, hC, _⟩ := hS h s
  obtain ⟨_, es, c, k2, _⟩ := H1
  rw [hC] at k2
  cases k2
 have hr : ¬ S r := fun s => by
  obtain ⟨C, E, hC, hE, _⟩ := hS r s
  have k2 := H1.1
  rw [hC] at k2
  cases k2
  exact hE rfl
 refine ⟨M, H1.mod hm hh hr, H2, fun x hx => ⟨(H3 x hx).1.mod hm (fun g hg s => ?_), (H3 x hx).2⟩, H4, H5⟩
 obtain ⟨C, E, hC, _, hE⟩ := hS g s
 obtain ⟨C2, hk⟩ := (H3 x hx).1.ty hg
 rw [hC] at hk
 cases hk
 exact hE rfl
theorem RfA.ty {b m : Nat} {T : TbL} {v : Value} {w : World} (H : RfA b m T v w) : ∀ i, (i = m ∨ v.ownBlock = some i) → ∃ C E, w.heap[i]? = some (.cells C E (0, 0)) ∧ E ≠ 48 ∧ E ≠ 82 := fun i hi => by
 obtain ⟨L, k1, k2, _⟩ := H
 rcases hi with rfl | hi
 ·exact ⟨_, _, k1, by decide, by decide⟩
 ·rcases k2.2 with ⟨q, _⟩ | ⟨g, _, cur, q, _, k, _⟩
  ·rw [q] at hi
   cases hi
  ·rw [q] at hi
   cases hi
   exact ⟨_, _, k, by decide, by decide⟩
theorem RfA.modM {b m h : Nat} {T : TbL} {v : Value} {w w' : World} {es : Array MapEntry} {c : Nat} (H : RfA b m T v w) (hm : Mod (fun i => i = h) w w') (hh : w.heap[h]? = some (.map es c)) : RfA b m T v w' :=
 H.mod hm (fun e => by
  obtain ⟨C, E, hC, _⟩ := H.ty m (.inl rfl)
  rw [e, hh] at hC
  cases hC) (fun g hg e => by
  obtain ⟨C, E, hC, _⟩ := H.ty g (.inr hg)
  rw [e, hh] at hC
  cases hC) (fun g C _ hg e => by
  rw [e, hh] at hg
  cases hg)
theorem bRf0 (w : World) : (Instr.build 96 #[]).run Tryz.prog w = .ok (.agg #[.slice none 0 0]) w := by kernel_rfl
def TaF (w : World) (x : TbR) : Prop := SlAt kc 32 w x.s.a x.s.l ∧ x.s.l.length ≤ 400 ∧ (x.s.a = none → x.s.c = 0) ∧ (x.s.l = [] ∨ ∀ g o, x.s.a = some ⟨g, o, none⟩ → g < w.heap.size)
set_option maxRecDepth 20000 in
set_option maxHeartbeats 3200000 in
theorem laid_c (a : Option Addr) (l : List TbR) (c : Nat) (w : World) (hl : SlAt tbr 33 w a l) (hall : ∀ x ∈ l, TaF w x) (hlen : l.length ≤ 40) :
  Calls Tryz.prog 12 #[.slice a l.length c] w fun e w' => ∃ h r m b v, e = .returned (.tuple #[pV r, pV m]) ∧ RegA w.heap.size h r (laidT l) w' ∧ RfA b m (laidT l) v w' ∧ w.heap.size ≤ m ∧ Mod (fun _ => False) w w' := by
 have HL := Lib.hid (And.intro hl hall)
 obtain ⟨n, hn⟩ : ∃ n, l.length = n := ⟨_, rfl⟩
 have HN := Lib.hid hn
 rw [hn] at hlen ⊢
 have hb0 := bRf0
 clear hl hall hn
 go_enter Tryz.func12, Tryz.ntmps12
 go_wp2_with fail
 go_at_call 33
 refine (newT_c _).mono ?_
 rintro e w1 ⟨h, r, rfl, hRA, m1⟩
 have HRA := Lib.hid hRA
 have HM1 := Lib.hid m1
 clear hRA m1
 go_upto_region 2 with fail
 refine wp_pass0 (C := fun _ _ _ => False) (κ := fun i => [0, 3, 0].getD i 0) [0, 1, 2] (by kernel_rfl) (by kernel_rfl) (fun _ _ d _ _ h => by cases d <;> first | exact h | exact absurd h (hP _ _ _)) ?_
 (refine TD.build (v := ?v15) (ps := ?p15) (by simp only [zK]; rfl) rfl (by rfl) rfl ?hx15 (fun w1 => ?y15) ?n15; (case hx15 => (simp only [List.map_toArray, List.map_cons, List.map_nil, Act.eval, zM]; (try rfl))); (case y15 => (rw [hb0]; (try with_reducible rfl))); try simp only [Act.put, zL])
 (refine TD.box (v := ?v16) (by simp only [zK]; rfl) rfl (by rfl) rfl rfl ?hx16 (fun p9 hp9 => ?n16); (case hx16 => simp only [Act.eval, zM]; try rfl); try simp only [Act.put, zL])
 (refine TD.val0 (v := ?_) (by simp only [zK]; rfl) rfl (by rfl) (fun w1 => ?_) ?_; rotate_left; (next => go_simp; try with_reducible rfl); try simp only [Act.put, zL])
 refine TD.nil (fun w2 hr => ?_)
 have kp9 := hr.box p9 _ (by first | exact Bx.set_same _ _ _ | (simp only [Bx.set_same]; rfl)); dsimp only [Value.cells] at kp9; obtain ⟨gp9, kp9⟩ := kp9
 have HS : Hid (RegA w.heap.size h r (laidT (l.take 0)) w2 ∧ RfA (p9 + 1) p9 (laidT (l.take 0)) (.slice none 0 0) w2 ∧ p9 + 1 ≤ w2.heap.size ∧ w.heap.size ≤ p9 ∧ Mod (fun _ => False) w w2) := Lib.hid ⟨HRA.out.mod0 hr.mod, ⟨[], kp9, SlOwn.nil _ _, rfl, fun x hx => (by cases hx), by omega⟩, lt_size kp9, Nat.le_trans HM1.out.size gp9, HM1.out.then0 hr.mod⟩
 clear hr kp9 gp9
 go_wp2_with fail
 go_loopw [6] (fun s6 ws => ∃ (i : Nat) (v : Value), i ≤ n ∧ s6 = .int .i64 (i : Int) ∧ Hid (RegA w.heap.size h r (laidT (l.take i)) ws ∧ RfA (p9 + 1) p9 (laidT (l.take i)) v ws ∧ p9 + 1 ≤ ws.heap.size ∧ w.heap.size ≤ p9 ∧ Mod (fun _ => False) w ws)) (fun s6 _ => n - (intOf s6).toNat)
 case atStart => exact ⟨0, _, Nat.zero_le _, rfl, HS⟩
 case round =>
  clear HS
  obtain ⟨i, v, hi, rfl, HS⟩ := hrel
  by_cases hlt : i < n
  ·have hd := decide_eq_true hlt
   obtain ⟨y, hy⟩ : ∃ y, l[i]? = some y := ⟨_, List.getElem?_eq_getElem (by have := HN.out; omega)⟩
   obtain ⟨g, o, C, U, fr, rfl, kg, he, hle⟩ := (HL.out.1.mod0 HS.out.2.2.2.2).block hy
   obtain ⟨ys, hys⟩ : ∃ n, y.s.l.length = n := ⟨_, rfl⟩
   have hks : C[o + i * 33 + 32]? = some (.slice y.s.a ys y.s.c) := by rw [← hys]; exact cellC he (j := 32) (tbr32 y)
   have hke := row_head he (tbr_key y) (by omega)
   have hle2 : o + i * 33 + 32 ≤ C.size := by omega
   have HY := Lib.hid (And.intro hy (And.intro hys (HL.out.2 y (List.mem_of_getElem? hy))))
   clear hy he hys
   go_upto_region 6 with fail
   have Lkg := lt_size kg
   refine wp_pass (C := fun _ _ _ => False) (κ := fun i => [0, 0, 0, 0, 0, 1, 0, 0, 0, 0, 1, 5].getD i 0) [0, 1, 2, 3, 4, 5, 6, 7, 8, 9, 10, 11] (by kernel_rfl) (by kernel_rfl) (fun _ _ d _ _ h => by cases d <;> first | exact h | exact absurd h (hP _ _ _)) ?_
   iterate 11 first | (refine TD.val0 (v := ?_) (by simp only [zK]; rfl) rfl (by rfl) (fun w1 => ?_) ?_; rotate_left; (next => go_simp; try with_reducible rfl); try simp only [Act.put, zL]) | (refine TD.load (v := ?_) (p := ?_) (Mod.refl _ _) (by simp only [zK]; rfl) rfl (by rfl) rfl ?_ (fun wq hSq => ?_) ?_; rotate_left 2; (next => simp only [Act.eval, zM]; try rfl); (next => have kgq := hSq.at kg (fun h => h); go_simp; try with_reducible rfl); try simp only [Act.put, zL])
   refine TD.eff (by simp only [zK]; rfl) rfl (fun w4 hr => ?_)
   replace kg := hr.mod.at kg (fun h => h)
   have HS4 := Lib.hid (show RegA w.heap.size h r (laidT (l.take i)) w4 ∧ RfA (p9 + 1) p9 (laidT (l.take i)) v w4 ∧ Mod (fun _ => False) w w4 from ⟨HS.out.1.mod0 hr.mod, HS.out.2.1.mod0 hr.mod, HS.out.2.2.2.2.then0 hr.mod⟩)
   have HMS := Lib.hid hr.mod.size
   have hC := putT_c y.k y.s.a y.s.l y.s.c w4 HS4.out.1 (HY.out.2.2.1.mod0 HS4.out.2.2) HY.out.2.2.2.2.1 (by have := HY.out.2.2.2.1; omega)
   rw [HY.out.2.1] at hC
   clear hr
   (refine eff_callT (by simp only [zK]; rfl) (by rfl) ?y30 hC ?hout (fun vn wn hR => ?hret) (fun ch wn hR => ?hpan); (case y30 => (go_simp; (try (first | with_reducible rfl | (constructor <;> with_reducible rfl))))))
   case hout =>
    rintro w' ⟨h, _⟩
    cases h
   case hpan =>
    obtain ⟨h, _⟩ := hR
    cases h
   case hret =>
   obtain ⟨e0, hRA5, hm5⟩ := hR
   cases e0
   obtain ⟨M4, hM4, _⟩ := HS4.out.1
   obtain ⟨_, es, cl, kh, _⟩ := hM4
   have HS5 := Lib.hid (show RegA w.heap.size h r (laidT (l.take (i + 1))) wn ∧ RfA (p9 + 1) p9 (laidT (l.take i)) v wn ∧ p9 + 1 ≤ wn.heap.size ∧ Mod (fun _ => False) w wn from
    ⟨by rw [laidT_snoc HY.out.1]; exact hRA5, HS4.out.2.1.modM hm5 kh, Nat.le_trans HS.out.2.2.1 (Nat.le_trans HMS.out hm5.size), HS4.out.2.2.then hm5 (fun j hj e => by
     obtain ⟨_, _, _, _, h5, _⟩ := hRA5
     have : j = h := e
     omega)⟩)
   clear hC hRA5 hm5 kh
   (try simp only [Act.put, zL])
   refine TE.nil ?_
   obtain ⟨w5, rfl⟩ : ∃ w5 : World, w5 = wn := ⟨_, rfl⟩
   obtain ⟨g2, o2, C2, U2, fr2, hga2, kg2, he2, hle3⟩ := (HL.out.1.mod0 HS5.out.2.2.2).block HY.out.1
   cases hga2
   have hks2 : C2[o + i * 33 + 32]? = some (.slice y.s.a ys y.s.c) := by rw [← HY.out.2.1]; exact cellC he2 (j := 32) (tbr32 y)
   have hke2 := row_head he2 (tbr_key y) (by omega)
   have hle4 : o + i * 33 + 32 ≤ C2.size := by omega
   clear kg he2 hks hke hle hle2
   go_upto_region 7 with fail
   have Lkg2 := lt_size kg2
   refine wp_pass (C := fun _ _ _ => False) (κ := fun i => [0, 0, 0, 0, 0, 1, 0, 0, 0, 0, 1, 5].getD i 0) [0, 1, 2, 3, 4, 5, 6, 7, 8, 9, 10, 11] (by kernel_rfl) (by kernel_rfl) (fun _ _ d _ _ h => by cases d <;> first | exact h | exact absurd h (hP _ _ _)) ?_
   iterate 11 first | (refine TD.val0 (v := ?_) (by simp only [zK]; rfl) rfl (by rfl) (fun w1 => ?_) ?_; rotate_left; (next => go_simp; try with_reducible rfl); try simp only [Act.put, zL]) | (refine TD.load (v := ?_) (p := ?_) (Mod.refl _ _) (by simp only [zK]; rfl) rfl (by rfl) rfl ?_ (fun wq hSq => ?_) ?_; rotate_left 2; (next => simp only [Act.eval, zM]; try rfl); (next => have kg2q := hSq.at kg2 (fun h => h); go_simp; try with_reducible rfl); try simp only [Act.put, zL])
   refine TD.eff (by simp only [zK]; rfl) rfl (fun w6 hr => ?_)
   replace kg2 := hr.mod.at kg2 (fun h => h)
   have HS6 := Lib.hid (show RegA w.heap.size h r (laidT (l.take (i + 1))) w6 ∧ RfA (p9 + 1) p9 (laidT (l.take i)) v w6 ∧ p9 + 1 ≤ w6.heap.size ∧ Mod (fun _ => False) w w6 from ⟨HS5.out.1.mod0 hr.mod, HS5.out.2.1.mod0 hr.mod, Nat.le_trans HS5.out.2.2.1 hr.mod.size, HS5.out.2.2.2.then0 hr.mod⟩)
   have hC := rput_c y.k y.s.a y.s.l y.s.c w6 HS6.out.2.1 (by have := laidT_len l i; omega) (HY.out.2.2.1.mod0 HS6.out.2.2.2) (by
    rcases HY.out.2.2.2.2.2 with h | h
    ·exact .inl h
    ·exact .inr (fun g o e => by have := h g o e; have := HS.out.2.2.2.1; omega)) (by have := HY.out.2.2.2.1; omega) HS6.out.2.2.1
   rw [HY.out.2.1] at hC
   clear hr kg2 hks2 hke2 hle3 hle4
   (refine eff_callT (by simp only [zK]; rfl) (by rfl) ?y43 hC ?hout (fun vn wn hR => ?hret) (fun ch wn hR => ?hpan); (case y43 => (go_simp; (try (first | with_reducible rfl | (constructor <;> with_reducible rfl))))))
   case hout =>
    rintro w' ⟨⟨_, h⟩, _⟩
    cases h
   case hpan =>
    obtain ⟨⟨_, h⟩, _⟩ := hR
    cases h
   case hret =>
   obtain ⟨⟨x, e0⟩, v7, hRf, hC7⟩ := hR
   cases e0
   have hms7 := hC7.1.size
   have HS7 : Hid (RegA w.heap.size h r (laidT (l.take (i + 1))) wn ∧ RfA (p9 + 1) p9 (laidT (l.take (i + 1))) v7 wn ∧ p9 + 1 ≤ wn.heap.size ∧ w.heap.size ≤ p9 ∧ Mod (fun _ => False) w wn) := Lib.hid ⟨HS6.out.1.modY hC7.1 HS6.out.2.1.ty, by rw [laidT_snoc HY.out.1]; exact hRf, Nat.le_trans HS6.out.2.2.1 hms7, HS.out.2.2.2.1, HS6.out.2.2.2.then hC7.1 (fun j hj e => by
    have := HS.out.2.2.2.1
    rcases e with e | e
    ·omega
    ·obtain ⟨L7, _, k2, _, _, k5⟩ := HS6.out.2.1
     have := (k2.lt j e).1
     omega)⟩
   clear hC hRf hC7 hms7
   (try simp only [Act.put, zL])
   refine TE.nil ?_
   go_wp2_with fail
   go_roundw
   case rel => exact ⟨i + 1, v7, by omega, by go_num, HS7⟩
   case measure => simp [intOf]; omega
  ·have hd := decide_eq_false hlt
   have e : l.take i = l := List.take_of_length_le (by have := HN.out; omega)
   rw [e] at HS
   clear hlt
   go_wp2_with fail
   go_ret2
   exact ⟨h, r, p9, p9 + 1, v, rfl, HS.out.1, HS.out.2.1, HS.out.2.2.2.1, HS.out.2.2.2.2⟩
end Go.Proofs.YtiaehkkkcaeaiaaGreatDoor
namespace Go.Proofs.YtiaehkkkcaeaiaaGreatDoor
open Go.RowKit
open Go.ChangeMaps (setBlock)
attribute [local go_sem ↓] wlKey ldKey stKey ldSg stSg wlTc ldTc stTc eqKey1
attribute [local go_sem] cell_blk frozen_blk kc_ext one_int one_bool one_ptr one_slice one_map kc_one kc_one0 kc_size zKey_size sgc_size sgc_ext sgc_one0 sgc_one' txr_size txr_all txr_one txr_one' txr0 txr38 txr39 txr0' txr38' txr39' zTx_size Value.cells
attribute [local go_sem ↓] wlRdy ldRdy stRdy
attribute [local go_sem] zTc_size zTc_ext zTc_all zTc_all0 rdr_size rdr_all rdr_one zRdy_size zRdy_one
structure ArgB (w : World) (a : Option Addr) (l : List UInt8) (c : Nat) : Prop where
 at_ : SlAt uc 1 w a l
 le : l.length ≤ c
 nn : a = none → c = 0
 inn : ∀ x, a = some x → x.block < w.heap.size
theorem ArgB.mod0 {w w' : World} {a : Option Addr} {l : List UInt8} {c : Nat} (h : ArgB w a l c) (hm : Mod (fun _ => False) w w') : ArgB w' a l c := ⟨h.at_.mod0 hm, h.le, h.nn, fun x e => Nat.lt_of_lt_of_le (h.inn x e) hm.size⟩
theorem great_no {n : Nat} {l : List TbR} (h : greatB n l = false) : n ≤ 5000 ∧ l.length ≤ 20 ∧ ∀ x ∈ l, x.s.l.length ≤ 400 := by
 unfold greatB at h
 simp only [Bool.or_eq_false_iff, decide_eq_false_iff_not, List.any_eq_false, decide_eq_true_eq] at h
 exact ⟨by omega, by omega, fun x hx => by have := h.2.2 x hx; omega⟩
theorem TaOk.f {w : World} {x : TbR} (h : TaOk w x) (hl : x.s.l.length ≤ 400) : TaF w x := ⟨h.1.1, hl, h.2.2, by
 by_cases hx : x.s.l = []
 ·exact .inl hx
 ·exact .inr fun g o e => (h.1.2.2.2.1 _ e).resolve_right hx⟩
theorem WirP.out {w w' : World} {l : List UInt8} (h : WirP w l .outgrown w') : False := by
 unfold WirP at h
 split at h
 ·obtain ⟨_, _, h, _⟩ := h
  cases h
 ·cases h.2
theorem WirP.pan {w w' : World} {l : List UInt8} {ch : _} (h : WirP w l (.panicked ch) w') : False := by
 unfold WirP at h
 split at h
 ·obtain ⟨_, _, h, _⟩ := h
  cases h
 ·cases h.2
theorem ready_ne {T : TbL} {l : List UInt8} {n : Nat} (h : readyP T l = .error n) : n ≠ 0 := by
 unfold readyP at h
 split at h
 ·rename_i e he
  cases h
  exact chk_ne he
 ·split at h
  ·rename_i e he
   cases h
   exact res_ne he
  ·split at h
   ·rename_i e he
    cases h
    unfold rolesP at he
    split at he
    ·cases he
    ·cases he
     decide
   ·cases h
theorem ReaP.two {T : TbL} {w w' : World} {l : List UInt8} {v : Value} (h : ReaP T w l (.returned v) w') : Mod (fun _ => False) w w' ∧ ∃ (z : RdR) (n : Nat), v = .tuple #[.agg (rdr z), i64n n] ∧ ((∃ y, readyP T l = .ok y ∧ RyO w.heap.size w' z ∧ ryP z = y ∧ TxB (txP z)) ∧ n = 0 ∨ readyP T l = .error n ∧ n ≠ 0 ∧ z = rd0) := by
 unfold ReaP at h
 obtain ⟨hm, h⟩ := h
 refine ⟨hm, ?_⟩
 cases hres : readyP T l with
 | ok y =>
  rw [hres] at h
  obtain ⟨r, h1, h2, h3, h4⟩ := h
  cases h1
  exact ⟨r, 0, rfl, .inl ⟨⟨y, rfl, h2, h3, h4⟩, rfl⟩⟩
 | error n =>
  rw [hres] at h
  cases h
  exact ⟨rd0, n, rfl, .inr ⟨rfl, ready_ne hres, rfl⟩⟩
theorem res_errs {T : TbL} : ∀ {L : List LoP} {o : List Key × List Key} {n : Nat}, resP T L o = .error n → n = 11 ∨ n = 8
 | [], o, n, h => by cases h
 | x :: xs, o, n, h => by
  unfold resP at h
  split at h
  ·cases h; exact .inl rfl
  ·split at h
   ·exact res_errs h
   ·cases h; exact .inr rfl
theorem ready_errs {T : TbL} {l : List UInt8} {x : TxP} {n : Nat} (hw : wireP l = .ok x) (h : readyP T l = .error n) : n = 11 ∨ n = 8 ∨ n = 9 := by
 unfold readyP at h
 rw [hw] at h
 simp only at h
 split at h
 ·rename_i e he
  cases h
  rcases res_errs he with h | h
  ·exact .inl h
  ·exact .inr (.inl h)
 ·split at h
  ·rename_i e he
   cases h
   unfold rolesP at he
   split at he
   ·cases he
   ·cases he
    exact .inr (.inr rfl)
  ·cases h
theorem ready_wire {T : TbL} {l : List UInt8} {n : Nat} (hw : wireP l = .error n) : readyP T l = .error n := by
 unfold readyP
 rw [hw]
end Go.Proofs.YtiaehkkkcaeaiaaGreatDoor
namespace Go.Proofs.YtiaehkkkcaeaiaaGreatDoor
open Go.RowKit
open Go.ChangeMaps (setBlock)
attribute [local go_sem ↓] wlKey ldKey stKey ldSg stSg wlTc ldTc stTc eqKey1
attribute [local go_sem] cell_blk frozen_blk kc_ext one_int one_bool one_ptr one_slice one_map kc_one kc_one0 kc_size zKey_size sgc_size sgc_ext sgc_one0 sgc_one' txr_size txr_all txr_one txr_one' txr0 txr38 txr39 txr0' txr38' txr39' zTx_size Value.cells
attribute [local go_sem ↓] wlRdy ldRdy stRdy
attribute [local go_sem] zTc_size zTc_ext zTc_all zTc_all0 rdr_size rdr_all rdr_one zRdy_size zRdy_one
def TasOk (w : World) (L : List TbR) : Prop := ∀ x ∈ L, TaOk w x
theorem TasOk.mod0 {w w' : World} {L : List TbR} (h : TasOk w L) (hm : Mod (fun _ => False) w w') : TasOk w' L := fun x hx => by
 obtain ⟨⟨h1, h2, h3, h4, h5⟩, h6⟩ := h x hx
 exact ⟨⟨h1.mod0 hm, fun _ _ => trivial, h3, fun y hy => (h4 y hy).imp_left (fun q => Nat.lt_of_lt_of_le q hm.size), h5⟩, h6⟩
set_option maxRecDepth 20000 in
set_option maxHeartbeats 3200000 in
theorem kindsLaw_c (ba : Option Addr) (B : List UInt8) (bc : Nat) (la : Option Addr) (L : List TbR) (lc : Nat) (w : World) (hb : ArgB w ba B bc) (hl : SlAt tbr 33 w la L) (hok : TasOk w L) (hB : BudW w) :
  Calls Tryz.prog 7 #[.slice ba B.length bc, .slice la L.length lc] w fun e w' => e = .returned (.bool true) ∧ Mod (fun _ => False) w w' := by
 have HB := Lib.hid hB
 have HA := Lib.hid hb
 have HL := Lib.hid (And.intro hl hok)
 have HGR := Lib.hid (great_c ba B.length bc la L lc w hl)
 obtain ⟨bn, hbn⟩ : ∃ bn, B.length = bn := ⟨_, rfl⟩
 have HBN := Lib.hid hbn
 rw [hbn] at HGR ⊢
 clear hb hl hok hB hbn
 cases hgr : greatB bn L with
 | true =>
  have HE := Lib.hid hgr
  go_enter Tryz.func7, Tryz.ntmps7
  go_wp2_with fail
  go_at_call 11
  refine HGR.out.mono ?_
  rintro e w1 ⟨rfl, m1⟩
  have HM1 := Lib.hid m1
  rw [HE.out]
  clear m1 hgr
  go_wp2_with fail
  go_at_call 8
  refine (lives_c _ (HB.out.mod0 HM1.out)).mono ?_
  rintro e w2 ⟨rfl, m2⟩
  go_wp2_with fail
  go_ret
  exact ⟨rfl, HM1.out.then0 m2⟩
 | false =>
  have HE := Lib.hid hgr
  obtain ⟨g1, g2, g3⟩ := great_no hgr
  have HG := Lib.hid (And.intro g1 (And.intro g2 g3))
  go_enter Tryz.func7, Tryz.ntmps7
  go_wp2_with fail
  go_at_call 11
  refine HGR.out.mono ?_
  rintro e w1 ⟨rfl, m1⟩
  have HM1 := Lib.hid m1
  rw [HE.out]
  clear m1 hgr g1 g2 g3
  go_wp2_with fail
  go_at_call 12
  refine (laid_c la L lc _ (HL.out.1.mod0 HM1.out) (fun x hx => (HL.out.2.mod0 HM1.out x hx).f (HG.out.2.2 x hx)) (by have := HG.out.2.1; omega)).mono ?_
  rintro e w2 ⟨h, r, m, b, v, rfl, hRA, hRf, hwm, m2⟩
  have HM2 := Lib.hid (HM1.out.then0 m2)
  have HRA := Lib.hid (And.intro hRA (And.intro hRf hwm))
  clear hRA hRf hwm m2
  have hW := wire_c (c := bc) w2 (HA.out.at_.mod0 HM2.out) HA.out.le HA.out.nn (by have := HG.out.1; have := HBN.out; omega) (HA.out.mod0 HM2.out).inn
  rw [HBN.out] at hW
  go_upto_region 4 with fail
  refine region_seq 8 rfl ?_
  simp only [List.range, List.range.loop]
  (refine sq_val (v := ?_) (by simp only [zK]; rfl) (by rfl) ?_ ?_; rotate_left; (next => go_simp; try with_reducible rfl); try simp only [Act.put, zL])
  (refine sq_callT (by simp only [zK]; rfl) (by rfl) ?y2 hW ?hout (fun vn wn hR => ?hret) (fun ch wn hR => ?hpan); (case y2 => (go_simp; (try (first | with_reducible rfl | (constructor <;> with_reducible rfl))))))
  case hout => exact fun w' h => h.out
  case hpan => exact hR.pan.elim
  case hret =>
  unfold WirP at hR
  obtain ⟨hm, hr⟩ := hR
  have HM3 := Lib.hid (HM2.out.trans hm)
  have HRA3 := Lib.hid (HRA.out.1.mod0 hm)
  clear hW hm
  cases hres : wireP B with
  | error n =>
   rw [hres] at hr
   simp only at hr
   cases hr
   have hne := chk_ne hres
   have HW : Hid (readyP (laidT L) B = .error n) := Lib.hid (ready_wire hres)
   (try simp only [Act.put, zL])
   obtain ⟨w3, rfl⟩ : ∃ w3 : World, w3 = wn := ⟨_, rfl⟩
   iterate 3 (refine sq_val (v := ?_) (by simp only [zK]; rfl) (by rfl) ?_ ?_; rotate_left; (next => go_simp; try with_reducible rfl); try simp only [Act.put, zL])
   (refine sq_alloc (by simp only [zK]; rfl) (by rfl) rfl alTx (fun p7 wn gp7 kp7 mp7 => ?n6); try simp only [Act.put, zL])
   (refine sq_store (X := ?X7) (Y := ?Y7) (w' := ?w7) (by simp only [zK]; rfl) (by rfl) rfl rfl ?hx7 ?hz7 ?y7 ?n7; (case hx7 => simp only [Act.eval, zM]; try rfl); (case hz7 => simp only [Act.eval, zM]; try rfl); (case y7 => go_simp; try with_reducible rfl))
   (first | refine sq_set kp7 (fun wn kp7 mS => ?_) | refine sq_setCell kp7 (fun wn kp7 mS => ?_))
   (refine sq_val (v := ?_) (by simp only [zK]; rfl) (by rfl) ?_ ?_; rotate_left; (next => go_simp; try with_reducible rfl); try simp only [Act.put, zL])
   refine sq_nil ?_
   have m4 : Mod (fun _ => False) w3 wn := mp7.then mS (fun i hi e => by omega)
   have HM4 := Lib.hid (HM3.out.then0 m4)
   have HRA4 := Lib.hid (HRA3.out.mod0 m4)
   clear mS mp7 kp7 gp7 m4 hres
   obtain ⟨w4, rfl⟩ : ∃ w4 : World, w4 = wn := ⟨_, rfl⟩
   have hC := ready_c (l := B) (c := bc) w4 HRA4.out (HB.out.mod0 HM4.out) (HA.out.at_.mod0 HM4.out) HA.out.le HA.out.nn (by have := HG.out.1; have := HBN.out; omega) (HA.out.mod0 HM4.out).inn
   rw [HBN.out] at hC
   go_upto_region 5 with fail
   refine region_seq 9 rfl ?_
   simp only [List.range, List.range.loop]
   iterate 2 (refine sq_val (v := ?_) (by simp only [zK]; rfl) (by rfl) ?_ ?_; rotate_left; (next => go_simp; try with_reducible rfl); try simp only [Act.put, zL])
   (refine sq_callT (by simp only [zK]; rfl) (by rfl) ?y11 hC ?hout (fun vn wn hR => ?hret) (fun ch wn hR => ?hpan); (case y11 => (go_simp; (try (first | with_reducible rfl | (constructor <;> with_reducible rfl))))))
   case hout => exact fun w' h => h.out
   case hpan => exact hR.pan.elim
   case hret =>
   unfold ReaP at hR
   rw [HW.out] at hR
   obtain ⟨hm, e0⟩ := hR
   cases e0
   have HM5 := Lib.hid (HM4.out.trans hm)
   clear hm hC
   (try simp only [Act.put, zL])
   obtain ⟨w5, rfl⟩ : ∃ w5 : World, w5 = wn := ⟨_, rfl⟩
   iterate 3 (refine sq_val (v := ?_) (by simp only [zK]; rfl) (by rfl) ?_ ?_; rotate_left; (next => go_simp; try with_reducible rfl); try simp only [Act.put, zL])
   (refine sq_alloc (by simp only [zK]; rfl) (by rfl) rfl alRdy (fun p9 wn gp9 kp9 mp9 => ?n15); try simp only [Act.put, zL])
   (refine sq_store (X := ?X16) (Y := ?Y16) (w' := ?w16) (by simp only [zK]; rfl) (by rfl) rfl rfl ?hx16 ?hz16 ?y16 ?n16; (case hx16 => simp only [Act.eval, zM]; try rfl); (case hz16 => simp only [Act.eval, zM]; try rfl); (case y16 => go_simp; try with_reducible rfl))
   (first | refine sq_set kp9 (fun wn kp9 mS => ?_) | refine sq_setCell kp9 (fun wn kp9 mS => ?_))
   (refine sq_val (v := ?_) (by simp only [zK]; rfl) (by rfl) ?_ ?_; rotate_left; (next => go_simp; try with_reducible rfl); try simp only [Act.put, zL])
   refine sq_nil ?_
   have HM6 : Hid (Mod (fun _ => False) w wn) := Lib.hid ((HM5.out.trans mp9).then mS (fun i hi e => by have := HM5.out.size; omega))
   clear mS mp9 kp9 gp9
   have hn1 : ((n : Int) != 0) = true := by simp; omega
   have hn2 : (n != 0) = true := by simp; omega
   have hn3 : ((n : Int) == (n : Int)) = true := by simp
   have hn4 : (n == n) = true := by simp
   clear hne
   go_wp2_with fail
   go_at_call 8
   refine (lives_c _ (HB.out.mod0 HM6.out)).mono ?_
   rintro e w9 ⟨rfl, m9⟩
   go_wp2_with fail
   go_ret
   exact ⟨rfl, HM6.out.then0 m9⟩
  | ok x =>
   rw [hres] at hr
   obtain ⟨z, hv0, -, -, -⟩ := hr
   cases hv0
   have HW := Lib.hid hres
   (try simp only [Act.put, zL])
   obtain ⟨w3, rfl⟩ : ∃ w3 : World, w3 = wn := ⟨_, rfl⟩
   iterate 3 (refine sq_val (v := ?_) (by simp only [zK]; rfl) (by rfl) ?_ ?_; rotate_left; (next => go_simp; try with_reducible rfl); try simp only [Act.put, zL])
   (refine sq_alloc (by simp only [zK]; rfl) (by rfl) rfl alTx (fun p7 wn gp7 kp7 mp7 => ?n21); try simp only [Act.put, zL])
   (refine sq_store (X := ?X22) (Y := ?Y22) (w' := ?w22) (by simp only [zK]; rfl) (by rfl) rfl rfl ?hx22 ?hz22 ?y22 ?n22; (case hx22 => simp only [Act.eval, zM]; try rfl); (case hz22 => simp only [Act.eval, zM]; try rfl); (case y22 => go_simp; try with_reducible rfl))
   (first | refine sq_set kp7 (fun wn kp7 mS => ?_) | refine sq_setCell kp7 (fun wn kp7 mS => ?_))
   (refine sq_val (v := ?_) (by simp only [zK]; rfl) (by rfl) ?_ ?_; rotate_left; (next => go_simp; try with_reducible rfl); try simp only [Act.put, zL])
   refine sq_nil ?_
   have m4 : Mod (fun _ => False) w3 wn := mp7.then mS (fun i hi e => by omega)
   have HM4 := Lib.hid (HM3.out.then0 m4)
   have HRA4 := Lib.hid (HRA3.out.mod0 m4)
   clear mS mp7 kp7 gp7 m4 hres
   obtain ⟨w4, rfl⟩ : ∃ w4 : World, w4 = wn := ⟨_, rfl⟩
   have hC := ready_c (l := B) (c := bc) w4 HRA4.out (HB.out.mod0 HM4.out) (HA.out.at_.mod0 HM4.out) HA.out.le HA.out.nn (by have := HG.out.1; have := HBN.out; omega) (HA.out.mod0 HM4.out).inn
   rw [HBN.out] at hC
   go_upto_region 5 with fail
   refine region_seq 9 rfl ?_
   simp only [List.range, List.range.loop]
   iterate 2 (refine sq_val (v := ?_) (by simp only [zK]; rfl) (by rfl) ?_ ?_; rotate_left; (next => go_simp; try with_reducible rfl); try simp only [Act.put, zL])
   (refine sq_callT (by simp only [zK]; rfl) (by rfl) ?y26 hC ?hout (fun vn wn hR => ?hret) (fun ch wn hR => ?hpan); (case y26 => (go_simp; (try (first | with_reducible rfl | (constructor <;> with_reducible rfl))))))
   case hout => exact fun w' h => h.out
   case hpan => exact hR.pan.elim
   case hret =>
   obtain ⟨hm, z2, n2, e0, hcase⟩ := hR.two
   cases e0
   have HM5 := Lib.hid (HM4.out.trans hm)
   have hfour : n2 = 0 ∨ n2 = 11 ∨ n2 = 8 ∨ n2 = 9 := by
    rcases hcase with ⟨_, h⟩ | ⟨h, _⟩
    ·exact .inl h
    ·exact .inr (ready_errs HW.out h)
   clear hm hC hcase hR
   (try simp only [Act.put, zL])
   obtain ⟨w5, rfl⟩ : ∃ w5 : World, w5 = wn := ⟨_, rfl⟩
   iterate 3 (refine sq_val (v := ?_) (by simp only [zK]; rfl) (by rfl) ?_ ?_; rotate_left; (next => go_simp; try with_reducible rfl); try simp only [Act.put, zL])
   (refine sq_alloc (by simp only [zK]; rfl) (by rfl) rfl alRdy (fun p9 wn gp9 kp9 mp9 => ?n30); try simp only [Act.put, zL])
   (refine sq_store (X := ?X31) (Y := ?Y31) (w' := ?w31) (by simp only [zK]; rfl) (by rfl) rfl rfl ?hx31 ?hz31 ?y31 ?n31; (case hx31 => simp only [Act.eval, zM]; try rfl); (case hz31 => simp only [Act.eval, zM]; try rfl); (case y31 => go_simp; try with_reducible rfl))
   (first | refine sq_set kp9 (fun wn kp9 mS => ?_) | refine sq_setCell kp9 (fun wn kp9 mS => ?_))
   (refine sq_val (v := ?_) (by simp only [zK]; rfl) (by rfl) ?_ ?_; rotate_left; (next => go_simp; try with_reducible rfl); try simp only [Act.put, zL])
   refine sq_nil ?_
   have HM6 : Hid (Mod (fun _ => False) w wn) := Lib.hid ((HM5.out.trans mp9).then mS (fun i hi e => by have := HM5.out.size; omega))
   clear mS mp9 kp9 gp9
   rcases hfour with rfl | rfl | rfl | rfl
   ·skip
    go_wp2_with fail
    go_at_call 8
    refine (lives_c _ (HB.out.mod0 HM6.out)).mono ?_
    rintro e w9 ⟨rfl, m9⟩
    go_wp2_with fail
    go_ret
    exact ⟨rfl, HM6.out.then0 m9⟩
   ·skip
    go_wp2_with fail
    go_at_call 8
    refine (lives_c _ (HB.out.mod0 HM6.out)).mono ?_
    rintro e w9 ⟨rfl, m9⟩
    go_wp2_with fail
    go_ret
    exact ⟨rfl, HM6.out.then0 m9⟩
   ·skip
    go_wp2_with fail
    go_at_call 8
    refine (lives_c _ (HB.out.mod0 HM6.out)).mono ?_
    rintro e w9 ⟨rfl, m9⟩
    go_wp2_with fail
    go_ret
    exact ⟨rfl, HM6.out.then0 m9⟩
   ·skip
    go_wp2_with fail
    go_at_call 8
    refine (lives_c _ (HB.out.mod0 HM6.out)).mono ?_
    rintro e w9 ⟨rfl, m9⟩
    go_wp2_with fail
    go_ret
    exact ⟨rfl, HM6.out.then0 m9⟩
end Go.Proofs.YtiaehkkkcaeaiaaGreatDoor
