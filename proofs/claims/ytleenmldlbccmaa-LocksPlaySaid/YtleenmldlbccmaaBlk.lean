/- The walks of locks.NewBlocks, Add, Hits. -/
import Derived.Test.YtleenmldlbccmaaGreat
namespace Go.Proofs.Ytleenmldlbccmaa
open Go.RowKit
open Go.ChangeMaps (setBlock)
set_option linter.unusedSimpArgs false
set_option linter.unusedVariables false
def bvv (b : Bool) : Value := .bool b
theorem zero_b (w : World) : (zeroValue 4).run Try.prog w = .ok (bvv false) w := by kernel_rfl
theorem eqBlk (w : World) (r : Option Nat) : (binOp .eql 57 (.map r) (.map none)).run Try.prog w = .ok (.bool r.isNone) w := run_eql_map_nil w _ _ _ _ Try.underlying57
attribute [local go_sem ↓] wlKey wlRole wlSpot wlCounts wlBits ldKey ldRole ldSpot ldCounts ldBits stKey stRole stSpot stCounts stBits eqCounts eqBits
attribute [local go_sem] eqBlk zKey_size zRole_size eqHeld cell_blk frozen_blk kc_ext rc_size rc_key rc_all rc_s rc_w rc_s' rc_w' rc_one sc_size sc_key sc_all sc_n sc_n' sc_one one_int one_bool one_ptr one_slice one_map zSpot_size kc_one kc_one0 Value.cells
def hitsR (m : List (Key × Bool)) (r : Role) : Bool := match lkp r.k m with
  | some v => v || r.w
  | none => false
def hitsB (m : List (Key × Bool)) (l : List Role) : Bool := l.any (hitsR m)
def add1 (m : List (Key × Bool)) (r : Role) : List (Key × Bool) := put r.k ((lkp r.k m).getD false || r.w) m
def addB (m : List (Key × Bool)) (l : List Role) : List (Key × Bool) := l.foldl add1 m
theorem any_take {α : Type} (f : α → Bool) (l : List α) {i : Nat} {x : α} (h : l[i]? = some x) : (l.take (i + 1)).any f = ((l.take i).any f || f x) := by
  rw [List.take_add_one, h]
  simp
theorem any_of_take {α : Type} {f : α → Bool} {l : List α} {i : Nat} (h : (l.take i).any f = true) : l.any f = true := by
  rw [List.any_eq_true] at *
  obtain ⟨x, hx, hf⟩ := h
  exact ⟨x, List.mem_of_mem_take hx, hf⟩
theorem hitsR_pair (m : List (Key × Bool)) (k : Key) (s b : Bool) : hitsR m ⟨k, s, b⟩ = ((lkp k m).isSome && ((lkp k m).getD false || b)) := by
  unfold hitsR
  cases lkp k m <;> simp
/-- Blocks that are there: what is noted of the keys. -/
def BlkAt (w : World) (p b : Nat) (m : List (Key × Bool)) : Prop :=
  w.heap[p]? = some (.cells #[.map (some b)] 59 (0, 0)) ∧ ∃ es c, w.heap[b]? = some (.map es c) ∧ MapIs kv bvv es c m
def BlkVoid (w : World) (p : Nat) : Prop := w.heap[p]? = some (.cells #[.map none] 59 (0, 0))
theorem BlkAt.mod0 {w w' : World} {p b : Nat} {m : List (Key × Bool)} (h : BlkAt w p b m) (hm : Mod (fun _ => False) w w') : BlkAt w' p b m := by
  obtain ⟨kp, es, c, kb, M⟩ := h
  exact ⟨hm.at0 kp, es, c, hm.at0 kb, M⟩
theorem BlkAt.out {w w' : World} {p b : Nat} {m : List (Key × Bool)} {S : Nat → Prop} (h : BlkAt w p b m) (hm : Mod S w w') (h1 : ¬ S p) (h2 : ¬ S b) : BlkAt w' p b m := by
  obtain ⟨kp, es, c, kb, M⟩ := h
  exact ⟨hm.at kp h1, es, c, hm.at kb h2, M⟩
theorem fresh2 (w : World) (a b : Obj) : ((w.alloc a).alloc b).heap[w.heap.size]? = some a ∧ ((w.alloc a).alloc b).heap[w.heap.size + 1]? = some b := by
  have e : ((w.alloc a).alloc b).heap = (w.heap.push a).push b := rfl
  rw [e]
  have n2 : w.heap.size ≠ w.heap.size + 1 := by omega
  have s2 : (w.heap.push a).size = w.heap.size + 1 := by simp
  refine ⟨?_, ?_⟩
  · rw [Array.getElem?_push, s2, if_neg n2, Array.getElem?_push, if_pos rfl]
  · rw [Array.getElem?_push, s2, if_pos rfl]
theorem newBlocks_c (w : World) : Calls Try.prog 21 #[] w fun e w' => ∃ p b, e = .returned (.pointer (some ⟨p, 0, none⟩)) ∧ w.heap.size ≤ p ∧ w.heap.size ≤ b ∧ BlkAt w' p b [] ∧ Mod (fun _ => False) w w' := by
  have hmm := @run_makeMap Try.prog
  go_enter Try.func21, Try.ntmps21
  go_wp2_with fail
  go_ret
  obtain ⟨h1, h2⟩ := fresh2 w (.map #[] 0) (.cells #[.map (some w.heap.size)] 59)
  exact ⟨_, w.heap.size, rfl, by omega, by omega, ⟨h2, _, _, h1, MapIs.empty kv bvv⟩, ((Mod.refl _ _).alloc _).alloc _⟩
set_option maxHeartbeats 1600000 in
theorem hits_g (p : Nat) (mv : Value) (m : List (Key × Bool)) (a : Option Addr) (l : List Role) (c : Nat) (w : World) (kp : w.heap[p]? = some (.cells #[mv] 59 (0, 0)))
    (hlk : ∀ k wq, Mod (fun _ => False) w wq → (Instr.lookup 57 mv (.agg (kc k)) true).run Try.prog wq = .ok (.tuple #[.bool ((lkp k m).getD false), .bool (lkp k m).isSome]) wq)
    (hl : RolesAt w a l) (hlen : l.length ≤ 1000000) :
    Calls Try.prog 22 #[.pointer (some ⟨p, 0, none⟩), .slice a l.length c] w fun e w' => e = .returned (.bool (hitsB m l)) ∧ Mod (fun _ => False) w w' := by
  have HLK := Lib.hid hlk
  clear hlk
  go_enter Try.func22, Try.ntmps22
  go_wp2_with fail
  go_loopw [13] (fun s13 wr => ∃ i : Nat, i ≤ l.length ∧ s13 = .int .i64 i ∧ Hid (hitsB m (l.take i) = false) ∧ Mod (fun _ => False) w wr) (fun s13 _ => l.length - (intOf s13).toNat)
  case atStart => exact ⟨0, by omega, rfl, Lib.hid (by simp [hitsB]), Mod.refl _ _⟩
  case round =>
    obtain ⟨i, hi, rfl, HA, hm⟩ := hrel
    have kp := hm.at0 kp
    by_cases hlt : i < l.length
    · obtain ⟨r, hrr⟩ : ∃ r, l[i]? = some r := ⟨_, List.getElem?_eq_getElem hlt⟩
      obtain ⟨b, o, C, U, fr, rfl, kl, hx, hle⟩ := (RolesAt.sl.1 (hl.mod0 hm)).block hrr
      obtain ⟨k, s, b1⟩ := r
      have HN : Hid (hitsB m (l.take (i + 1)) = ((lkp k m).isSome && ((lkp k m).getD false || b1))) := Lib.hid (by
        have h1 := any_take (hitsR m) l hrr
        have h2 := HA.out
        unfold hitsB at *
        rw [h1, h2, Bool.false_or, hitsR_pair])
      unfold rcr at hx
      dsimp only at hx
      clear hrr
      go_upto_region 5 with fail
      have Lkp := lt_size kp
      have Lkl := lt_size kl
      refine wp_pass0 (C := fun _ _ _ => False) (κ := fun i => [0, 1, 3, 4].getD i 0) [0, 1, 2, 3] (by kernel_rfl) (by kernel_rfl) (fun _ _ d _ _ h => by cases d <;> exact h) ?_
      (refine TD.val0 (v := ?v1) (by simp only [List.getElem?_toArray, List.getElem?_cons_succ, List.getElem?_cons_zero]; rfl) rfl ?hw1 (fun w1 => ?hy1) ?hn1; (case hw1 => rfl); (case hy1 => (go_simp; (try with_reducible rfl))); (try simp only [Act.put, List.setIfInBounds_toArray, List.set_cons_zero, List.set_cons_succ]))
      (refine TD.load (v := ?v2) (p := ?p2) (Mod.refl _ _) (by simp only [List.getElem?_toArray, List.getElem?_cons_succ, List.getElem?_cons_zero]; rfl) rfl ?hw2 rfl ?hx2 (fun wq hSq => ?hy2) ?hn2; (case hw2 => rfl); (case hx2 => (simp only [Act.eval, Array.getD_eq_getD_getElem?, List.getElem?_toArray, List.getElem?_cons_succ, List.getElem?_cons_zero, Option.getD_some]; (try rfl))); (case hy2 => (have kpq := hSq.at kp (fun h => h); have klq := hSq.at kl (fun h => h); go_simp; (try with_reducible rfl))); (try simp only [Act.put, List.setIfInBounds_toArray, List.set_cons_zero, List.set_cons_succ]))
      (refine TD.allocB (by simp only [List.getElem?_toArray, List.getElem?_cons_succ, List.getElem?_cons_zero]; rfl) rfl ?hw3 rfl rfl alRole (fun p6 hp6 => ?hn3); (case hw3 => rfl); (try simp only [Act.put, List.setIfInBounds_toArray, List.set_cons_zero, List.set_cons_succ]))
      (refine TD.storeB (d := ?d4) (T := ?T4) (y := ?y4) (p := ?p4) (b := ?b4) (v := ?v4) (by simp only [List.getElem?_toArray, List.getElem?_cons_succ, List.getElem?_cons_zero]; rfl) rfl ?hw4 ?hd4 ?hop4 ?hev4 ?hx4 ?hb4 ?htag4 (fun w1 hb1 => ?hy4) ?hn4; (case hw4 => rfl); (case hd4 => rfl); (case hop4 => rfl); (case hev4 => (simp only [Act.eval, Array.getD_eq_getD_getElem?, List.getElem?_toArray, List.getElem?_cons_succ, List.getElem?_cons_zero, Option.getD_some]; (try rfl))); (case hx4 => (simp only [Act.eval, Array.getD_eq_getD_getElem?, List.getElem?_toArray, List.getElem?_cons_succ, List.getElem?_cons_zero, Option.getD_some]; (try rfl))); (case hb4 => first | exact Bx.set_same _ _ _ | (simp only [Bx.set_same]; rfl)); (case hy4 => (go_simp; (try with_reducible rfl))); (try simp only [Act.put, List.setIfInBounds_toArray, List.set_cons_zero, List.set_cons_succ]))
      refine TD.nil (fun w1 hr => ?_)
      have kp := hr.mod.at kp (fun h => h)
      have kl := hr.mod.at kl (fun h => h)
      have kp6 := hr.box p6 _ (by first | exact Bx.set_same _ _ _ | (simp only [Bx.set_same]; rfl)); dsimp only [Value.cells] at kp6; obtain ⟨gp6, kp6⟩ := kp6
      have mm := hm.then0 hr.mod
      go_upto_region 6 with fail
      have l1 : ∀ wq, Mod (fun _ => False) w1 wq → _ := fun wq hq => HLK.out k wq (mm.then0 hq)
      generalize (lkp k m).getD false = q0 at *
      generalize (lkp k m).isSome = q1 at *
      have Lkp := lt_size kp
      have Lkl := lt_size kl
      have Lkp6 := lt_size kp6
      refine wp_pass (C := fun _ _ _ => False) (κ := fun i => [0, 0, 0, 1, 0, 1, 1, 0, 0, 0, 0, 0].getD i 0) [0, 1, 2, 3, 4, 5, 6, 7, 8, 9, 10, 11] (by kernel_rfl) (by kernel_rfl) (fun _ _ d _ _ h => by cases d <;> exact h) ?_
      (refine TD.val0 (v := ?v5) (by simp only [List.getElem?_toArray, List.getElem?_cons_succ, List.getElem?_cons_zero]; rfl) rfl ?hw5 (fun w1 => ?hy5) ?hn5; (case hw5 => rfl); (case hy5 => (go_simp; (try with_reducible rfl))); (try simp only [Act.put, List.setIfInBounds_toArray, List.set_cons_zero, List.set_cons_succ]))
      (refine TD.val0 (v := ?v6) (by simp only [List.getElem?_toArray, List.getElem?_cons_succ, List.getElem?_cons_zero]; rfl) rfl ?hw6 (fun w1 => ?hy6) ?hn6; (case hw6 => rfl); (case hy6 => (go_simp; (try with_reducible rfl))); (try simp only [Act.put, List.setIfInBounds_toArray, List.set_cons_zero, List.set_cons_succ]))
      (refine TD.val0 (v := ?v7) (by simp only [List.getElem?_toArray, List.getElem?_cons_succ, List.getElem?_cons_zero]; rfl) rfl ?hw7 (fun w1 => ?hy7) ?hn7; (case hw7 => rfl); (case hy7 => (go_simp; (try with_reducible rfl))); (try simp only [Act.put, List.setIfInBounds_toArray, List.set_cons_zero, List.set_cons_succ]))
      (refine TD.load (v := ?v8) (p := ?p8) (Mod.refl _ _) (by simp only [List.getElem?_toArray, List.getElem?_cons_succ, List.getElem?_cons_zero]; rfl) rfl ?hw8 rfl ?hx8 (fun wq hSq => ?hy8) ?hn8; (case hw8 => rfl); (case hx8 => (simp only [Act.eval, Array.getD_eq_getD_getElem?, List.getElem?_toArray, List.getElem?_cons_succ, List.getElem?_cons_zero, Option.getD_some]; (try rfl))); (case hy8 => (have kpq := hSq.at kp (fun h => h); have klq := hSq.at kl (fun h => h); have kp6q := hSq.at kp6 (fun h => h); go_simp; (try with_reducible rfl))); (try simp only [Act.put, List.setIfInBounds_toArray, List.set_cons_zero, List.set_cons_succ]))
      (refine TD.val0 (v := ?v9) (by simp only [List.getElem?_toArray, List.getElem?_cons_succ, List.getElem?_cons_zero]; rfl) rfl ?hw9 (fun w1 => ?hy9) ?hn9; (case hw9 => rfl); (case hy9 => (go_simp; (try with_reducible rfl))); (try simp only [Act.put, List.setIfInBounds_toArray, List.set_cons_zero, List.set_cons_succ]))
      (refine TD.load (v := ?v10) (p := ?p10) (Mod.refl _ _) (by simp only [List.getElem?_toArray, List.getElem?_cons_succ, List.getElem?_cons_zero]; rfl) rfl ?hw10 rfl ?hx10 (fun wq hSq => ?hy10) ?hn10; (case hw10 => rfl); (case hx10 => (simp only [Act.eval, Array.getD_eq_getD_getElem?, List.getElem?_toArray, List.getElem?_cons_succ, List.getElem?_cons_zero, Option.getD_some]; (try rfl))); (case hy10 => (have kpq := hSq.at kp (fun h => h); have klq := hSq.at kl (fun h => h); have kp6q := hSq.at kp6 (fun h => h); go_simp; (try with_reducible rfl))); (try simp only [Act.put, List.setIfInBounds_toArray, List.set_cons_zero, List.set_cons_succ]))
      (refine TD.lookup (v := ?v11) (p := ?p11) (q := ?q11) (Mod.refl _ _) (by simp only [List.getElem?_toArray, List.getElem?_cons_succ, List.getElem?_cons_zero]; rfl) rfl ?hw11 rfl ?hx11 ?hz11 (fun wq hSq => ?hy11) ?hn11; (case hw11 => rfl); (case hx11 => (simp only [Act.eval, Array.getD_eq_getD_getElem?, List.getElem?_toArray, List.getElem?_cons_succ, List.getElem?_cons_zero, Option.getD_some]; (try rfl))); (case hz11 => (simp only [Act.eval, Array.getD_eq_getD_getElem?, List.getElem?_toArray, List.getElem?_cons_succ, List.getElem?_cons_zero, Option.getD_some]; (try rfl))); (case hy11 => (rw [l1 wq hSq]; (try with_reducible rfl))); (try simp only [Act.put, List.setIfInBounds_toArray, List.set_cons_zero, List.set_cons_succ]))
      (refine TD.val0 (v := ?v12) (by simp only [List.getElem?_toArray, List.getElem?_cons_succ, List.getElem?_cons_zero]; rfl) rfl ?hw12 (fun w1 => ?hy12) ?hn12; (case hw12 => rfl); (case hy12 => (go_simp; (try with_reducible rfl))); (try simp only [Act.put, List.setIfInBounds_toArray, List.set_cons_zero, List.set_cons_succ]))
      (refine TD.val0 (v := ?v13) (by simp only [List.getElem?_toArray, List.getElem?_cons_succ, List.getElem?_cons_zero]; rfl) rfl ?hw13 (fun w1 => ?hy13) ?hn13; (case hw13 => rfl); (case hy13 => (go_simp; (try with_reducible rfl))); (try simp only [Act.put, List.setIfInBounds_toArray, List.set_cons_zero, List.set_cons_succ]))
      (refine TD.val0 (v := ?v14) (by simp only [List.getElem?_toArray, List.getElem?_cons_succ, List.getElem?_cons_zero]; rfl) rfl ?hw14 (fun w1 => ?hy14) ?hn14; (case hw14 => rfl); (case hy14 => (go_simp; (try with_reducible rfl))); (try simp only [Act.put, List.setIfInBounds_toArray, List.set_cons_zero, List.set_cons_succ]))
      (refine TD.val0 (v := ?v15) (by simp only [List.getElem?_toArray, List.getElem?_cons_succ, List.getElem?_cons_zero]; rfl) rfl ?hw15 (fun w1 => ?hy15) ?hn15; (case hw15 => rfl); (case hy15 => (go_simp; (try with_reducible rfl))); (try simp only [Act.put, List.setIfInBounds_toArray, List.set_cons_zero, List.set_cons_succ]))
      (refine TD.val0 (v := ?v16) (by simp only [List.getElem?_toArray, List.getElem?_cons_succ, List.getElem?_cons_zero]; rfl) rfl ?hw16 (fun w1 => ?hy16) ?hn16; (case hw16 => rfl); (case hy16 => (go_simp; (try with_reducible rfl))); (try simp only [Act.put, List.setIfInBounds_toArray, List.set_cons_zero, List.set_cons_succ]))
      refine TD.nil (fun w2 hr => ?_)
      have kp := hr.mod.at kp (fun h => h)
      have kl := hr.mod.at kl (fun h => h)
      have kp6 := hr.mod.at kp6 (fun h => h)
      have mm := mm.then0 hr.mod
      clear l1
      cases q1 <;> cases q0 <;> cases b1
      all_goals
        go_wp2_with fail
        first
          | (go_ret; exact ⟨by rw [show hitsB m l = true from any_of_take HN.out]; rfl, mm⟩)
          | (go_roundw; (case rel => exact ⟨i + 1, by omega, by go_num, Lib.hid HN.out, mm⟩); (case measure => simp [intOf]; omega))
    · obtain rfl : i = l.length := by omega
      go_wp2_with fail
      go_ret
      have := HA.out
      rw [List.take_length] at this
      exact ⟨by rw [this]; rfl, hm⟩
theorem hits_c (p b : Nat) (m : List (Key × Bool)) (a : Option Addr) (l : List Role) (c : Nat) (w : World) (h : BlkAt w p b m) (hl : RolesAt w a l) (hlen : l.length ≤ 1000000) :
    Calls Try.prog 22 #[.pointer (some ⟨p, 0, none⟩), .slice a l.length c] w fun e w' => e = .returned (.bool (hitsB m l)) ∧ Mod (fun _ => False) w w' := by
  obtain ⟨kp, es, cl, kb, M⟩ := h
  refine hits_g p _ m a l c w kp (fun k wq hq => ?_) hl hlen
  have := M.lookup keyT Try.underlying57 zero_b wq (hq.at0 kb) k true
  rw [if_pos rfl] at this
  refine this.trans ?_
  cases lkp k m <;> rfl
theorem lookup_nilB (k : Key) (w : World) : (Instr.lookup 57 (.map none) (.agg (kc k)) true).run Try.prog w = .ok (.tuple #[.bool false, .bool false]) w := by
  obtain ⟨l, hl⟩ := keyT.lit k
  have hl : keyOf Try.prog 42 (.agg (kc k)) = some l := hl
  simp [Instr.lookup, run_underlying Try.underlying57, keyT.law.check w _ hl, keyT.law.find, zero_b, Result.andThen, Instr.findKey, Instr.findNow, run_underlying keyIs.u]
theorem hits_void (p : Nat) (a : Option Addr) (l : List Role) (c : Nat) (w : World) (h : BlkVoid w p) (hl : RolesAt w a l) (hlen : l.length ≤ 1000000) :
    Calls Try.prog 22 #[.pointer (some ⟨p, 0, none⟩), .slice a l.length c] w fun e w' => e = .returned (.bool false) ∧ Mod (fun _ => False) w w' := by
  have := hits_g p _ [] a l c w h (fun k wq _ => lookup_nilB k wq) hl hlen
  have e : hitsB [] l = false := by
    unfold hitsB
    rw [List.any_eq_false]
    intro r _
    simp [hitsR, lkp]
  rw [e] at this
  exact this
theorem hits_nil (a : Option Addr) (l c : Nat) (w : World) : Calls Try.prog 22 #[.pointer none, .slice a l c] w fun e w' => e = .returned (.bool false) ∧ w = w' := by
  go_enter Try.func22, Try.ntmps22
  go_wp2
  go_ret
  exact ⟨rfl, rfl⟩
theorem add_nil (a : Option Addr) (l c : Nat) (w : World) : Calls Try.prog 24 #[.pointer none, .slice a l c] w fun e w' => e = .returned (.tuple #[]) ∧ w = w' := by
  go_enter Try.func24, Try.ntmps24
  go_wp2
  exact bodyPost_ret (v := .tuple #[]) (results_none rfl _ _ _) rfl ⟨rfl, rfl⟩
theorem add_void (p : Nat) (a : Option Addr) (l c : Nat) (w : World) (kp : w.heap[p]? = some (.cells #[.map none] 59 (0, 0))) : Calls Try.prog 24 #[.pointer (some ⟨p, 0, none⟩), .slice a l c] w fun e w' => e = .returned (.tuple #[]) ∧ w = w' := by
  go_enter Try.func24, Try.ntmps24
  go_wp2
  exact bodyPost_ret (v := .tuple #[]) (results_none rfl _ _ _) rfl ⟨rfl, rfl⟩
theorem addB_snoc (m : List (Key × Bool)) (l : List Role) (r : Role) : addB m (l ++ [r]) = add1 (addB m l) r := by simp [addB, List.foldl_append]
def AddPost (w : World) (p b : Nat) (m : List (Key × Bool)) (w' : World) : Prop := BlkAt w' p b m ∧ Mod (fun i => i = b) w w'
set_option maxHeartbeats 1600000 in
theorem add_c (p b : Nat) (m : List (Key × Bool)) (a : Option Addr) (l : List Role) (c : Nat) (w : World) (h : BlkAt w p b m) (hl : RolesAt w a l) (hlen : l.length ≤ 1000000) :
    Calls Try.prog 24 #[.pointer (some ⟨p, 0, none⟩), .slice a l.length c] w fun e w' => e = .returned (.tuple #[]) ∧ AddPost w p b (addB m l) w' := by
  obtain ⟨kp0, _, _, kb0, _⟩ := id h
  have H0 := Lib.hid h
  clear h
  go_enter Try.func24, Try.ntmps24
  go_wp2_with fail
  have hnb : ∀ i, i = b → ∀ C U fr, w.heap[i]? ≠ some (.cells C U fr) := by
    rintro i rfl C U fr e
    rw [kb0] at e
    cases e
  have HNB := Lib.hid hnb
  clear kp0 kb0 hnb
  go_loopw [17] (fun s17 wr => ∃ i : Nat, i ≤ l.length ∧ s17 = .int .i64 i ∧ AddPost w p b (addB m (l.take i)) wr) (fun s17 _ => l.length - (intOf s17).toNat)
  case atStart => exact ⟨0, by omega, rfl, H0.out, Mod.refl _ _⟩
  case round =>
    obtain ⟨i, hi, rfl, hB, hm⟩ := hrel
    obtain ⟨kp, es, cl, kb, M⟩ := hB
    by_cases hlt : i < l.length
    · obtain ⟨r, hrr⟩ : ∃ r, l[i]? = some r := ⟨_, List.getElem?_eq_getElem hlt⟩
      have HT : Hid (addB m (l.take (i + 1)) = add1 (addB m (l.take i)) r) := Lib.hid (by rw [List.take_add_one, hrr, ← addB_snoc]; rfl)
      obtain ⟨g, o, C, U, fr, rfl, kl, hx, hle⟩ := ((RolesAt.sl.1 hl).modM hm HNB.out).block hrr
      obtain ⟨k, s, b1⟩ := r
      unfold rcr at hx
      dsimp only at hx
      have hgb := ne_of_obj kl kb (by simp)
      have hpb := ne_of_obj kp kb (by simp)
      clear hrr hl
      generalize addB m (l.take i) = m1 at *
      have hlk : ∀ wq, Mod (fun _ => False) wr wq → (Instr.lookup 57 (.map (some b)) (.agg (kc k)) false).run Try.prog wq = .ok (.bool ((lkp k m1).getD false)) wq := fun wq hq => M.lookupD keyT Try.underlying57 zero_b wq (hq.at0 kb) k
      have HLK := Lib.hid hlk
      clear hlk
      have HR : Hid (∀ v, ((lkp k m1).getD false || b1) = v → add1 m1 ⟨k, s, b1⟩ = put k v m1) := Lib.hid (fun v h => by unfold add1; rw [← h])
      generalize (lkp k m1).getD false = q0 at *
      go_upto_region 3 with fail
      have Lkp := lt_size kp
      have Lkb := lt_size kb
      have Lkl := lt_size kl
      refine wp_pass0 (C := fun _ _ _ => False) (κ := fun i => [0, 1, 3, 4].getD i 0) [0, 1, 2, 3] (by kernel_rfl) (by kernel_rfl) (fun _ _ d _ _ h => by cases d <;> exact h) ?_
      (refine TD.val0 (v := ?v17) (by simp only [List.getElem?_toArray, List.getElem?_cons_succ, List.getElem?_cons_zero]; rfl) rfl ?hw17 (fun w1 => ?hy17) ?hn17; (case hw17 => rfl); (case hy17 => (go_simp; (try with_reducible rfl))); (try simp only [Act.put, List.setIfInBounds_toArray, List.set_cons_zero, List.set_cons_succ]))
      (refine TD.load (v := ?v18) (p := ?p18) (Mod.refl _ _) (by simp only [List.getElem?_toArray, List.getElem?_cons_succ, List.getElem?_cons_zero]; rfl) rfl ?hw18 rfl ?hx18 (fun wq hSq => ?hy18) ?hn18; (case hw18 => rfl); (case hx18 => (simp only [Act.eval, Array.getD_eq_getD_getElem?, List.getElem?_toArray, List.getElem?_cons_succ, List.getElem?_cons_zero, Option.getD_some]; (try rfl))); (case hy18 => (have kpq := hSq.at kp (fun h => h); have kbq := hSq.at kb (fun h => h); have klq := hSq.at kl (fun h => h); go_simp; (try with_reducible rfl))); (try simp only [Act.put, List.setIfInBounds_toArray, List.set_cons_zero, List.set_cons_succ]))
      (refine TD.allocB (by simp only [List.getElem?_toArray, List.getElem?_cons_succ, List.getElem?_cons_zero]; rfl) rfl ?hw19 rfl rfl alRole (fun p5 hp5 => ?hn19); (case hw19 => rfl); (try simp only [Act.put, List.setIfInBounds_toArray, List.set_cons_zero, List.set_cons_succ]))
      (refine TD.storeB (d := ?d20) (T := ?T20) (y := ?y20) (p := ?p20) (b := ?b20) (v := ?v20) (by simp only [List.getElem?_toArray, List.getElem?_cons_succ, List.getElem?_cons_zero]; rfl) rfl ?hw20 ?hd20 ?hop20 ?hev20 ?hx20 ?hb20 ?htag20 (fun w1 hb1 => ?hy20) ?hn20; (case hw20 => rfl); (case hd20 => rfl); (case hop20 => rfl); (case hev20 => (simp only [Act.eval, Array.getD_eq_getD_getElem?, List.getElem?_toArray, List.getElem?_cons_succ, List.getElem?_cons_zero, Option.getD_some]; (try rfl))); (case hx20 => (simp only [Act.eval, Array.getD_eq_getD_getElem?, List.getElem?_toArray, List.getElem?_cons_succ, List.getElem?_cons_zero, Option.getD_some]; (try rfl))); (case hb20 => first | exact Bx.set_same _ _ _ | (simp only [Bx.set_same]; rfl)); (case hy20 => (go_simp; (try with_reducible rfl))); (try simp only [Act.put, List.setIfInBounds_toArray, List.set_cons_zero, List.set_cons_succ]))
      refine TD.nil (fun w1 hr => ?_)
      have kp := hr.mod.at kp (fun h => h)
      have kb := hr.mod.at kb (fun h => h)
      have kl := hr.mod.at kl (fun h => h)
      have kp5 := hr.box p5 _ (by first | exact Bx.set_same _ _ _ | (simp only [Bx.set_same]; rfl)); dsimp only [Value.cells] at kp5; obtain ⟨gp5, kp5⟩ := kp5
      have mm := hm.then0 hr.mod
      have l1 : ∀ wq, Mod (fun _ => False) w1 wq → _ := fun wq hq => HLK.out wq (hr.mod.then0 hq)
      go_upto_region 4 with fail
      cases q0 with
      | true =>
        have Lkp := lt_size kp
        have Lkl := lt_size kl
        have Lkp5 := lt_size kp5
        have Lkb := lt_size kb
        refine wp_pass (C := fun _ _ _ => False) (κ := fun i => [0, 0, 0, 1, 0, 1, 0, 0, 0, 1, 0, 1, 1, 0, 0, 1, 0, 5].getD i 0) [0, 1, 2, 3, 4, 5, 6, 7, 8, 9, 10, 11, 12, 13, 14, 15, 16, 17] (by kernel_rfl) (by kernel_rfl) (fun _ _ d _ _ h => by cases d <;> exact h) ?_
        (refine TD.val0 (v := ?v21) (by simp only [List.getElem?_toArray, List.getElem?_cons_succ, List.getElem?_cons_zero]; rfl) rfl ?hw21 (fun w1 => ?hy21) ?hn21; (case hw21 => rfl); (case hy21 => (go_simp; (try with_reducible rfl))); (try simp only [Act.put, List.setIfInBounds_toArray, List.set_cons_zero, List.set_cons_succ]))
        (refine TD.val0 (v := ?v22) (by simp only [List.getElem?_toArray, List.getElem?_cons_succ, List.getElem?_cons_zero]; rfl) rfl ?hw22 (fun w1 => ?hy22) ?hn22; (case hw22 => rfl); (case hy22 => (go_simp; (try with_reducible rfl))); (try simp only [Act.put, List.setIfInBounds_toArray, List.set_cons_zero, List.set_cons_succ]))
        (refine TD.val0 (v := ?v23) (by simp only [List.getElem?_toArray, List.getElem?_cons_succ, List.getElem?_cons_zero]; rfl) rfl ?hw23 (fun w1 => ?hy23) ?hn23; (case hw23 => rfl); (case hy23 => (go_simp; (try with_reducible rfl))); (try simp only [Act.put, List.setIfInBounds_toArray, List.set_cons_zero, List.set_cons_succ]))
        (refine TD.load (v := ?v24) (p := ?p24) (Mod.refl _ _) (by simp only [List.getElem?_toArray, List.getElem?_cons_succ, List.getElem?_cons_zero]; rfl) rfl ?hw24 rfl ?hx24 (fun wq hSq => ?hy24) ?hn24; (case hw24 => rfl); (case hx24 => (simp only [Act.eval, Array.getD_eq_getD_getElem?, List.getElem?_toArray, List.getElem?_cons_succ, List.getElem?_cons_zero, Option.getD_some]; (try rfl))); (case hy24 => (have kpq := hSq.at kp (fun h => h); have klq := hSq.at kl (fun h => h); have kp5q := hSq.at kp5 (fun h => h); have kbq := hSq.at kb (fun h => h); go_simp; (try with_reducible rfl))); (try simp only [Act.put, List.setIfInBounds_toArray, List.set_cons_zero, List.set_cons_succ]))
        (refine TD.val0 (v := ?v25) (by simp only [List.getElem?_toArray, List.getElem?_cons_succ, List.getElem?_cons_zero]; rfl) rfl ?hw25 (fun w1 => ?hy25) ?hn25; (case hw25 => rfl); (case hy25 => (go_simp; (try with_reducible rfl))); (try simp only [Act.put, List.setIfInBounds_toArray, List.set_cons_zero, List.set_cons_succ]))
        (refine TD.load (v := ?v26) (p := ?p26) (Mod.refl _ _) (by simp only [List.getElem?_toArray, List.getElem?_cons_succ, List.getElem?_cons_zero]; rfl) rfl ?hw26 rfl ?hx26 (fun wq hSq => ?hy26) ?hn26; (case hw26 => rfl); (case hx26 => (simp only [Act.eval, Array.getD_eq_getD_getElem?, List.getElem?_toArray, List.getElem?_cons_succ, List.getElem?_cons_zero, Option.getD_some]; (try rfl))); (case hy26 => (have kpq := hSq.at kp (fun h => h); have klq := hSq.at kl (fun h => h); have kp5q := hSq.at kp5 (fun h => h); have kbq := hSq.at kb (fun h => h); go_simp; (try with_reducible rfl))); (try simp only [Act.put, List.setIfInBounds_toArray, List.set_cons_zero, List.set_cons_succ]))
        (refine TD.val0 (v := ?v27) (by simp only [List.getElem?_toArray, List.getElem?_cons_succ, List.getElem?_cons_zero]; rfl) rfl ?hw27 (fun w1 => ?hy27) ?hn27; (case hw27 => rfl); (case hy27 => (go_simp; (try with_reducible rfl))); (try simp only [Act.put, List.setIfInBounds_toArray, List.set_cons_zero, List.set_cons_succ]))
        (refine TD.val0 (v := ?v28) (by simp only [List.getElem?_toArray, List.getElem?_cons_succ, List.getElem?_cons_zero]; rfl) rfl ?hw28 (fun w1 => ?hy28) ?hn28; (case hw28 => rfl); (case hy28 => (go_simp; (try with_reducible rfl))); (try simp only [Act.put, List.setIfInBounds_toArray, List.set_cons_zero, List.set_cons_succ]))
        (refine TD.val0 (v := ?v29) (by simp only [List.getElem?_toArray, List.getElem?_cons_succ, List.getElem?_cons_zero]; rfl) rfl ?hw29 (fun w1 => ?hy29) ?hn29; (case hw29 => rfl); (case hy29 => (go_simp; (try with_reducible rfl))); (try simp only [Act.put, List.setIfInBounds_toArray, List.set_cons_zero, List.set_cons_succ]))
        (refine TD.load (v := ?v30) (p := ?p30) (Mod.refl _ _) (by simp only [List.getElem?_toArray, List.getElem?_cons_succ, List.getElem?_cons_zero]; rfl) rfl ?hw30 rfl ?hx30 (fun wq hSq => ?hy30) ?hn30; (case hw30 => rfl); (case hx30 => (simp only [Act.eval, Array.getD_eq_getD_getElem?, List.getElem?_toArray, List.getElem?_cons_succ, List.getElem?_cons_zero, Option.getD_some]; (try rfl))); (case hy30 => (have kpq := hSq.at kp (fun h => h); have klq := hSq.at kl (fun h => h); have kp5q := hSq.at kp5 (fun h => h); have kbq := hSq.at kb (fun h => h); go_simp; (try with_reducible rfl))); (try simp only [Act.put, List.setIfInBounds_toArray, List.set_cons_zero, List.set_cons_succ]))
        (refine TD.val0 (v := ?v31) (by simp only [List.getElem?_toArray, List.getElem?_cons_succ, List.getElem?_cons_zero]; rfl) rfl ?hw31 (fun w1 => ?hy31) ?hn31; (case hw31 => rfl); (case hy31 => (go_simp; (try with_reducible rfl))); (try simp only [Act.put, List.setIfInBounds_toArray, List.set_cons_zero, List.set_cons_succ]))
        (refine TD.load (v := ?v32) (p := ?p32) (Mod.refl _ _) (by simp only [List.getElem?_toArray, List.getElem?_cons_succ, List.getElem?_cons_zero]; rfl) rfl ?hw32 rfl ?hx32 (fun wq hSq => ?hy32) ?hn32; (case hw32 => rfl); (case hx32 => (simp only [Act.eval, Array.getD_eq_getD_getElem?, List.getElem?_toArray, List.getElem?_cons_succ, List.getElem?_cons_zero, Option.getD_some]; (try rfl))); (case hy32 => (have kpq := hSq.at kp (fun h => h); have klq := hSq.at kl (fun h => h); have kp5q := hSq.at kp5 (fun h => h); have kbq := hSq.at kb (fun h => h); go_simp; (try with_reducible rfl))); (try simp only [Act.put, List.setIfInBounds_toArray, List.set_cons_zero, List.set_cons_succ]))
        (refine TD.lookup (v := ?v33) (p := ?p33) (q := ?q33) (Mod.refl _ _) (by simp only [List.getElem?_toArray, List.getElem?_cons_succ, List.getElem?_cons_zero]; rfl) rfl ?hw33 rfl ?hx33 ?hz33 (fun wq hSq => ?hy33) ?hn33; (case hw33 => rfl); (case hx33 => (simp only [Act.eval, Array.getD_eq_getD_getElem?, List.getElem?_toArray, List.getElem?_cons_succ, List.getElem?_cons_zero, Option.getD_some]; (try rfl))); (case hz33 => (simp only [Act.eval, Array.getD_eq_getD_getElem?, List.getElem?_toArray, List.getElem?_cons_succ, List.getElem?_cons_zero, Option.getD_some]; (try rfl))); (case hy33 => (rw [l1 wq hSq]; (try with_reducible rfl))); (try simp only [Act.put, List.setIfInBounds_toArray, List.set_cons_zero, List.set_cons_succ]))
        (refine TD.val0 (v := ?v34) (by simp only [List.getElem?_toArray, List.getElem?_cons_succ, List.getElem?_cons_zero]; rfl) rfl ?hw34 (fun w1 => ?hy34) ?hn34; (case hw34 => rfl); (case hy34 => (go_simp; (try with_reducible rfl))); (try simp only [Act.put, List.setIfInBounds_toArray, List.set_cons_zero, List.set_cons_succ]))
        (refine TD.pass (by simp only [List.getElem?_toArray, List.getElem?_cons_succ, List.getElem?_cons_zero]; rfl) rfl ?hw35 ?hn35; (case hw35 => rfl); (try simp only [Act.put, List.setIfInBounds_toArray, List.set_cons_zero, List.set_cons_succ]))
        (refine TD.pass1 (by simp only [List.getElem?_toArray, List.getElem?_cons_succ, List.getElem?_cons_zero]; rfl) rfl ?hw36 ?hn36; (case hw36 => rfl); (try simp only [Act.put, List.setIfInBounds_toArray, List.set_cons_zero, List.set_cons_succ]))
        (refine TD.val0 (v := ?v37) (by simp only [List.getElem?_toArray, List.getElem?_cons_succ, List.getElem?_cons_zero]; rfl) rfl ?hw37 (fun w1 => ?hy37) ?hn37; (case hw37 => rfl); (case hy37 => (go_simp; (try with_reducible rfl))); (try simp only [Act.put, List.setIfInBounds_toArray, List.set_cons_zero, List.set_cons_succ]))
        refine TD.eff (by simp only [List.getElem?_toArray, List.getElem?_cons_succ, List.getElem?_cons_zero]; rfl) rfl (fun wE hr => ?_)
        have kp := hr.mod.at0 kp
        have kl := hr.mod.at0 kl
        have kp5 := hr.mod.at0 kp5
        have kb := hr.mod.at0 kb
        have mE := hr.mod
        obtain ⟨es38, cl38, hrun38, Mkb⟩ := M.update keyT Try.underlying57 wE kb k true
        (refine eff_update (X := ?X38) (Y := ?Y38) (Z := ?Z38) (w' := ?w38) (by simp only [List.getElem?_toArray, List.getElem?_cons_succ, List.getElem?_cons_zero]; rfl) ?hw38 rfl ?hx38 ?hz38 ?hv38 ?hy38 ?hn38; (case hw38 => rfl); (case hx38 => (simp only [Act.eval, Array.getD_eq_getD_getElem?, List.getElem?_toArray, List.getElem?_cons_succ, List.getElem?_cons_zero, Option.getD_some]; (try rfl))); (case hz38 => (simp only [Act.eval, Array.getD_eq_getD_getElem?, List.getElem?_toArray, List.getElem?_cons_succ, List.getElem?_cons_zero, Option.getD_some]; (try rfl))); (case hv38 => (simp only [Act.eval, Array.getD_eq_getD_getElem?, List.getElem?_toArray, List.getElem?_cons_succ, List.getElem?_cons_zero, Option.getD_some]; (try rfl))); (case hy38 => exact hrun38))
        (first | refine TE.nil_set kb (fun w2 kb mS => ?_) | refine TE.nil_setCell kb (fun w2 kb mS => ?_))
        (try simp only [Array.setIfInBounds, List.setIfInBounds_toArray, List.set_cons_zero, List.set_cons_succ] at kb)
        have kp := mS.at_ne kp (by omega)
        have kl := mS.at_ne kl (by omega)
        have kp5 := mS.at_ne kp5 (by omega)
        have mm := (mm.then0 mE).thenB mS (.inr rfl)
        clear l1
        go_wp2_with fail
        go_roundw
        case rel => exact ⟨i + 1, by omega, by go_num, by rw [HT.out, HR.out true rfl]; exact ⟨⟨kp, _, _, kb, Mkb⟩, mm⟩⟩
        case measure => simp [intOf]; omega
      | false =>
        have Lkp := lt_size kp
        have Lkl := lt_size kl
        have Lkp5 := lt_size kp5
        have Lkb := lt_size kb
        refine wp_pass (C := fun _ _ _ => False) (κ := fun i => [0, 0, 0, 1, 0, 1, 0, 0, 0, 1, 0, 1, 1, 0, 0, 1, 0, 5].getD i 0) [0, 1, 2, 3, 4, 5, 6, 7, 8, 9, 10, 11, 12, 13, 14, 15, 16, 17] (by kernel_rfl) (by kernel_rfl) (fun _ _ d _ _ h => by cases d <;> exact h) ?_
        (refine TD.val0 (v := ?v39) (by simp only [List.getElem?_toArray, List.getElem?_cons_succ, List.getElem?_cons_zero]; rfl) rfl ?hw39 (fun w1 => ?hy39) ?hn39; (case hw39 => rfl); (case hy39 => (go_simp; (try with_reducible rfl))); (try simp only [Act.put, List.setIfInBounds_toArray, List.set_cons_zero, List.set_cons_succ]))
        (refine TD.val0 (v := ?v40) (by simp only [List.getElem?_toArray, List.getElem?_cons_succ, List.getElem?_cons_zero]; rfl) rfl ?hw40 (fun w1 => ?hy40) ?hn40; (case hw40 => rfl); (case hy40 => (go_simp; (try with_reducible rfl))); (try simp only [Act.put, List.setIfInBounds_toArray, List.set_cons_zero, List.set_cons_succ]))
        (refine TD.val0 (v := ?v41) (by simp only [List.getElem?_toArray, List.getElem?_cons_succ, List.getElem?_cons_zero]; rfl) rfl ?hw41 (fun w1 => ?hy41) ?hn41; (case hw41 => rfl); (case hy41 => (go_simp; (try with_reducible rfl))); (try simp only [Act.put, List.setIfInBounds_toArray, List.set_cons_zero, List.set_cons_succ]))
        (refine TD.load (v := ?v42) (p := ?p42) (Mod.refl _ _) (by simp only [List.getElem?_toArray, List.getElem?_cons_succ, List.getElem?_cons_zero]; rfl) rfl ?hw42 rfl ?hx42 (fun wq hSq => ?hy42) ?hn42; (case hw42 => rfl); (case hx42 => (simp only [Act.eval, Array.getD_eq_getD_getElem?, List.getElem?_toArray, List.getElem?_cons_succ, List.getElem?_cons_zero, Option.getD_some]; (try rfl))); (case hy42 => (have kpq := hSq.at kp (fun h => h); have klq := hSq.at kl (fun h => h); have kp5q := hSq.at kp5 (fun h => h); have kbq := hSq.at kb (fun h => h); go_simp; (try with_reducible rfl))); (try simp only [Act.put, List.setIfInBounds_toArray, List.set_cons_zero, List.set_cons_succ]))
        (refine TD.val0 (v := ?v43) (by simp only [List.getElem?_toArray, List.getElem?_cons_succ, List.getElem?_cons_zero]; rfl) rfl ?hw43 (fun w1 => ?hy43) ?hn43; (case hw43 => rfl); (case hy43 => (go_simp; (try with_reducible rfl))); (try simp only [Act.put, List.setIfInBounds_toArray, List.set_cons_zero, List.set_cons_succ]))
        (refine TD.load (v := ?v44) (p := ?p44) (Mod.refl _ _) (by simp only [List.getElem?_toArray, List.getElem?_cons_succ, List.getElem?_cons_zero]; rfl) rfl ?hw44 rfl ?hx44 (fun wq hSq => ?hy44) ?hn44; (case hw44 => rfl); (case hx44 => (simp only [Act.eval, Array.getD_eq_getD_getElem?, List.getElem?_toArray, List.getElem?_cons_succ, List.getElem?_cons_zero, Option.getD_some]; (try rfl))); (case hy44 => (have kpq := hSq.at kp (fun h => h); have klq := hSq.at kl (fun h => h); have kp5q := hSq.at kp5 (fun h => h); have kbq := hSq.at kb (fun h => h); go_simp; (try with_reducible rfl))); (try simp only [Act.put, List.setIfInBounds_toArray, List.set_cons_zero, List.set_cons_succ]))
        (refine TD.val0 (v := ?v45) (by simp only [List.getElem?_toArray, List.getElem?_cons_succ, List.getElem?_cons_zero]; rfl) rfl ?hw45 (fun w1 => ?hy45) ?hn45; (case hw45 => rfl); (case hy45 => (go_simp; (try with_reducible rfl))); (try simp only [Act.put, List.setIfInBounds_toArray, List.set_cons_zero, List.set_cons_succ]))
        (refine TD.val0 (v := ?v46) (by simp only [List.getElem?_toArray, List.getElem?_cons_succ, List.getElem?_cons_zero]; rfl) rfl ?hw46 (fun w1 => ?hy46) ?hn46; (case hw46 => rfl); (case hy46 => (go_simp; (try with_reducible rfl))); (try simp only [Act.put, List.setIfInBounds_toArray, List.set_cons_zero, List.set_cons_succ]))
        (refine TD.val0 (v := ?v47) (by simp only [List.getElem?_toArray, List.getElem?_cons_succ, List.getElem?_cons_zero]; rfl) rfl ?hw47 (fun w1 => ?hy47) ?hn47; (case hw47 => rfl); (case hy47 => (go_simp; (try with_reducible rfl))); (try simp only [Act.put, List.setIfInBounds_toArray, List.set_cons_zero, List.set_cons_succ]))
        (refine TD.load (v := ?v48) (p := ?p48) (Mod.refl _ _) (by simp only [List.getElem?_toArray, List.getElem?_cons_succ, List.getElem?_cons_zero]; rfl) rfl ?hw48 rfl ?hx48 (fun wq hSq => ?hy48) ?hn48; (case hw48 => rfl); (case hx48 => (simp only [Act.eval, Array.getD_eq_getD_getElem?, List.getElem?_toArray, List.getElem?_cons_succ, List.getElem?_cons_zero, Option.getD_some]; (try rfl))); (case hy48 => (have kpq := hSq.at kp (fun h => h); have klq := hSq.at kl (fun h => h); have kp5q := hSq.at kp5 (fun h => h); have kbq := hSq.at kb (fun h => h); go_simp; (try with_reducible rfl))); (try simp only [Act.put, List.setIfInBounds_toArray, List.set_cons_zero, List.set_cons_succ]))
        (refine TD.val0 (v := ?v49) (by simp only [List.getElem?_toArray, List.getElem?_cons_succ, List.getElem?_cons_zero]; rfl) rfl ?hw49 (fun w1 => ?hy49) ?hn49; (case hw49 => rfl); (case hy49 => (go_simp; (try with_reducible rfl))); (try simp only [Act.put, List.setIfInBounds_toArray, List.set_cons_zero, List.set_cons_succ]))
        (refine TD.load (v := ?v50) (p := ?p50) (Mod.refl _ _) (by simp only [List.getElem?_toArray, List.getElem?_cons_succ, List.getElem?_cons_zero]; rfl) rfl ?hw50 rfl ?hx50 (fun wq hSq => ?hy50) ?hn50; (case hw50 => rfl); (case hx50 => (simp only [Act.eval, Array.getD_eq_getD_getElem?, List.getElem?_toArray, List.getElem?_cons_succ, List.getElem?_cons_zero, Option.getD_some]; (try rfl))); (case hy50 => (have kpq := hSq.at kp (fun h => h); have klq := hSq.at kl (fun h => h); have kp5q := hSq.at kp5 (fun h => h); have kbq := hSq.at kb (fun h => h); go_simp; (try with_reducible rfl))); (try simp only [Act.put, List.setIfInBounds_toArray, List.set_cons_zero, List.set_cons_succ]))
        (refine TD.lookup (v := ?v51) (p := ?p51) (q := ?q51) (Mod.refl _ _) (by simp only [List.getElem?_toArray, List.getElem?_cons_succ, List.getElem?_cons_zero]; rfl) rfl ?hw51 rfl ?hx51 ?hz51 (fun wq hSq => ?hy51) ?hn51; (case hw51 => rfl); (case hx51 => (simp only [Act.eval, Array.getD_eq_getD_getElem?, List.getElem?_toArray, List.getElem?_cons_succ, List.getElem?_cons_zero, Option.getD_some]; (try rfl))); (case hz51 => (simp only [Act.eval, Array.getD_eq_getD_getElem?, List.getElem?_toArray, List.getElem?_cons_succ, List.getElem?_cons_zero, Option.getD_some]; (try rfl))); (case hy51 => (rw [l1 wq hSq]; (try with_reducible rfl))); (try simp only [Act.put, List.setIfInBounds_toArray, List.set_cons_zero, List.set_cons_succ]))
        (refine TD.val0 (v := ?v52) (by simp only [List.getElem?_toArray, List.getElem?_cons_succ, List.getElem?_cons_zero]; rfl) rfl ?hw52 (fun w1 => ?hy52) ?hn52; (case hw52 => rfl); (case hy52 => (go_simp; (try with_reducible rfl))); (try simp only [Act.put, List.setIfInBounds_toArray, List.set_cons_zero, List.set_cons_succ]))
        (refine TD.val0 (v := ?v53) (by simp only [List.getElem?_toArray, List.getElem?_cons_succ, List.getElem?_cons_zero]; rfl) rfl ?hw53 (fun w1 => ?hy53) ?hn53; (case hw53 => rfl); (case hy53 => (go_simp; (try with_reducible rfl))); (try simp only [Act.put, List.setIfInBounds_toArray, List.set_cons_zero, List.set_cons_succ]))
        (refine TD.load (v := ?v54) (p := ?p54) (Mod.refl _ _) (by simp only [List.getElem?_toArray, List.getElem?_cons_succ, List.getElem?_cons_zero]; rfl) rfl ?hw54 rfl ?hx54 (fun wq hSq => ?hy54) ?hn54; (case hw54 => rfl); (case hx54 => (simp only [Act.eval, Array.getD_eq_getD_getElem?, List.getElem?_toArray, List.getElem?_cons_succ, List.getElem?_cons_zero, Option.getD_some]; (try rfl))); (case hy54 => (have kpq := hSq.at kp (fun h => h); have klq := hSq.at kl (fun h => h); have kp5q := hSq.at kp5 (fun h => h); have kbq := hSq.at kb (fun h => h); go_simp; (try with_reducible rfl))); (try simp only [Act.put, List.setIfInBounds_toArray, List.set_cons_zero, List.set_cons_succ]))
        (refine TD.val0 (v := ?v55) (by simp only [List.getElem?_toArray, List.getElem?_cons_succ, List.getElem?_cons_zero]; rfl) rfl ?hw55 (fun w1 => ?hy55) ?hn55; (case hw55 => rfl); (case hy55 => (go_simp; (try with_reducible rfl))); (try simp only [Act.put, List.setIfInBounds_toArray, List.set_cons_zero, List.set_cons_succ]))
        refine TD.eff (by simp only [List.getElem?_toArray, List.getElem?_cons_succ, List.getElem?_cons_zero]; rfl) rfl (fun wE hr => ?_)
        have kp := hr.mod.at0 kp
        have kl := hr.mod.at0 kl
        have kp5 := hr.mod.at0 kp5
        have kb := hr.mod.at0 kb
        have mE := hr.mod
        obtain ⟨es56, cl56, hrun56, Mkb⟩ := M.update keyT Try.underlying57 wE kb k b1
        (refine eff_update (X := ?X56) (Y := ?Y56) (Z := ?Z56) (w' := ?w56) (by simp only [List.getElem?_toArray, List.getElem?_cons_succ, List.getElem?_cons_zero]; rfl) ?hw56 rfl ?hx56 ?hz56 ?hv56 ?hy56 ?hn56; (case hw56 => rfl); (case hx56 => (simp only [Act.eval, Array.getD_eq_getD_getElem?, List.getElem?_toArray, List.getElem?_cons_succ, List.getElem?_cons_zero, Option.getD_some]; (try rfl))); (case hz56 => (simp only [Act.eval, Array.getD_eq_getD_getElem?, List.getElem?_toArray, List.getElem?_cons_succ, List.getElem?_cons_zero, Option.getD_some]; (try rfl))); (case hv56 => (simp only [Act.eval, Array.getD_eq_getD_getElem?, List.getElem?_toArray, List.getElem?_cons_succ, List.getElem?_cons_zero, Option.getD_some]; (try rfl))); (case hy56 => exact hrun56))
        (first | refine TE.nil_set kb (fun w2 kb mS => ?_) | refine TE.nil_setCell kb (fun w2 kb mS => ?_))
        (try simp only [Array.setIfInBounds, List.setIfInBounds_toArray, List.set_cons_zero, List.set_cons_succ] at kb)
        have kp := mS.at_ne kp (by omega)
        have kl := mS.at_ne kl (by omega)
        have kp5 := mS.at_ne kp5 (by omega)
        have mm := (mm.then0 mE).thenB mS (.inr rfl)
        clear l1
        go_wp2_with fail
        go_roundw
        case rel => exact ⟨i + 1, by omega, by go_num, by rw [HT.out, HR.out b1 rfl]; exact ⟨⟨kp, _, _, kb, Mkb⟩, mm⟩⟩
        case measure => simp [intOf]; omega
    · obtain rfl : i = l.length := by omega
      rw [List.take_length] at M
      go_wp2_with fail
      go_end0
      exact ⟨rfl, ⟨kp, _, _, kb, M⟩, hm⟩
end Go.Proofs.Ytleenmldlbccmaa
