/- Graphs: the law's own 'lives'. -/
import Derived.Test.YtffcnnogkpdinaaGsm
namespace Go.Proofs.Ytffcnnogkpdinaa
open Go.RowKit
open Go.ChangeMaps (setBlock)
set_option linter.unusedSimpArgs false
set_option linter.unusedVariables false
attribute [local go_sem ↓] wlKey wlRole ldKey ldRole stKey stRole
attribute [local go_sem] zKey_size zRole_size kc_ext rc_size rc_key rc_all rc_s rc_w rc_s' rc_w' rc_one one_int one_bool one_ptr one_slice one_map kc_one kc_one0 cell_blk frozen_blk Value.cells eqMap neMap
def k1 : Key := ⟨[1, 0, 0, 0, 0, 0, 0, 0, 0, 0, 0, 0, 0, 0, 0, 0, 0, 0, 0, 0, 0, 0, 0, 0, 0, 0, 0, 0, 0, 0, 0, 0], rfl⟩
def k2 : Key := ⟨[2, 0, 0, 0, 0, 0, 0, 0, 0, 0, 0, 0, 0, 0, 0, 0, 0, 0, 0, 0, 0, 0, 0, 0, 0, 0, 0, 0, 0, 0, 0, 0], rfl⟩
theorem bk1 (w : World) : (Instr.build 23 #[(0, .int .u8 1)]).run Try.prog w = .ok (.agg (kc k1)) w := by kernel_rfl
theorem bk2 (w : World) : (Instr.build 23 #[(0, .int .u8 2)]).run Try.prog w = .ok (.agg (kc k2)) w := by kernel_rfl
/-- The graph, as a land. -/
def GL (g q : Nat) (K : List Rn) : Land := GAt g q (K.map Rn.cn)
theorem goodGL (g q : Nat) (K : List Rn) : Good (GL g q K) := GAt.good g q _
/-- A row of numbers that a call has made. -/
def RowL (l : List Int64) (v : Value) : Land := fun T w => ∃ a, v = .slice a l.length l.length ∧ SlAt ic 1 w a l ∧ ∀ b o, a = some ⟨b, o, none⟩ → T b
theorem goodRow (l : List Int64) (v : Value) : Good (RowL l v) where
  cl := fun T w w' ⟨a, e, h, ht⟩ hm => ⟨a, e, h.mod hm (fun b o e hn => hn (ht b o e)), ht⟩
  gr := fun T T' w hT ⟨a, e, h, ht⟩ => ⟨a, e, h, fun b o e => hT b (ht b o e)⟩
/-- A value, and a graph. -/
def VG (v0 : Value) (g q : Nat) (K : List Rn) (v : Value) : Land := fun T w => v = v0 ∧ GL g q K T w
theorem goodVG (v0 : Value) (g q : Nat) (K : List Rn) (v : Value) : Good (VG v0 g q K v) := (Good.pure (v = v0)).and (goodGL g q K)
theorem putL {g q : Nat} {K K' : List Rn} {T : Nat → Prop} {w : World} (hk : GL g q K T w) (hlt : ∀ i, T i → i < w.heap.size) (hq : q < 900) (id : Int64) (z : Int) (hz : id.toInt = z) (l : List Role) (n c : Nat) (hn : l.length = n) {a : Option Addr} (hl : RolesAt w a l) (hd : l ≠ [] → ∀ b o, a = some ⟨b, o, none⟩ → ¬ T b) (hll : l.length ≤ 800) (hid : ∀ x ∈ K, x.id ≠ id)
    (hK : K' = K ++ [⟨id, chainR K id l, l⟩]) :
    Calls Try.prog 10 #[ptrV g, .int .i64 z, .slice a n c] w fun e w' => ∃ v, e = .returned v ∧ Mod T w w' ∧ VG (.int .i64 0) g (q + 1) K' v (Grow T w w') w' := by
  subst hz
  subst hn
  subst hK
  refine (putR_c ⟨hk, hlt⟩ hq id a l c hl hll hd hid).mono ?_
  rintro e w' ⟨rfl, T', hA, hm, ht⟩
  refine ⟨_, rfl, hm, rfl, (goodGL g (q + 1) _).gr T' _ _ (fun i hi => ?_) hA.1⟩
  rcases ht i hi with h | h
  · exact .inl h
  · exact .inr ⟨h, hA.2 i hi⟩
theorem popBL {g q : Nat} {K X Y : List Rn} {x : Rn} {T : Nat → Prop} {w : World} (hk : GL g q K T w) (hlt : ∀ i, T i → i < w.heap.size) (hK : K = X ++ x :: Y) (z : Int) (hz : x.id.toInt = z) (hb : X.any (fun y => conf y.l x.l) = true) :
    Calls Try.prog 16 #[ptrV g, .int .i64 z] w fun e w' => ∃ v, e = .returned v ∧ Mod T w w' ∧ VG (.int .i64 23) g q K v (Grow T w w') w' := by
  subst hz
  subst hK
  refine (popR_c ⟨hk, hlt⟩).mono ?_
  rintro e w' (⟨_, rfl, hm⟩ | ⟨h1, _⟩)
  · exact ⟨_, rfl, hm.mono (fun _ _ h => h.elim), rfl, (goodGL g q _).gr _ _ _ (fun i hi => .inl hi) ((goodGL g q _).cl T w w' hk (hm.mono (fun _ _ h => h.elim)))⟩
  · rw [hb] at h1; cases h1
theorem popRL {g q : Nat} {K X Y : List Rn} {x : Rn} {T : Nat → Prop} {w : World} (hk : GL g q K T w) (hlt : ∀ i, T i → i < w.heap.size) (hK : K = X ++ x :: Y) (z : Int) (hz : x.id.toInt = z) (hb : X.any (fun y => conf y.l x.l) = false) :
    Calls Try.prog 16 #[ptrV g, .int .i64 z] w fun e w' => ∃ v, e = .returned v ∧ Mod T w w' ∧ VG (.int .i64 0) g q (X ++ Y) v (Grow T w w') w' := by
  subst hz
  subst hK
  refine (popR_c ⟨hk, hlt⟩).mono ?_
  rintro e w' (⟨h4, _⟩ | ⟨_, rfl, hA', hm⟩)
  · rw [hb] at h4; cases h4
  · exact ⟨_, rfl, hm, rfl, (goodGL g q _).gr _ _ _ (fun i hi => .inl hi) hA'.1⟩
theorem readyL {g q : Nat} {K : List Rn} {T : Nat → Prop} {w : World} (hk : GL g q K T w) (hlt : ∀ i, T i → i < w.heap.size) (l : List Int64) (hl : readyR K = l) :
    Calls Try.prog 13 #[ptrV g] w fun e w' => ∃ v, e = .returned v ∧ Mod (fun _ => False) w w' ∧ RowL l v (Grow T w w') w' := by
  subst hl
  refine (readyR_c ⟨hk, hlt⟩).mono ?_
  rintro e w' ⟨a, rfl, h1, hf, h3, hm⟩
  refine ⟨_, rfl, hm, a, rfl, h1, fun b o e => ?_⟩
  subst e
  obtain ⟨C, U, hk2⟩ := hf b o rfl
  exact .inr ⟨h3 _ rfl, lt_size hk2⟩
theorem chainL {g q : Nat} {K : List Rn} {T : Nat → Prop} {w : World} (hk : GL g q K T w) (hlt : ∀ i, T i → i < w.heap.size) (x : Rn) (hx : x ∈ K) (z c : Int) (hz : x.id.toInt = z) (hc : x.ch.toInt = c) :
    Calls Try.prog 11 #[ptrV g, .int .i64 z] w fun e w' => e = .returned (.tuple #[.int .i64 c, .int .i64 0]) ∧ w' = w := by
  subst hz
  subst hc
  exact chainR_c ⟨hk, hlt⟩ x hx
/-- Two rows of the same numbers. -/
theorem sameL {w : World} {a b : Option Addr} {l : List Int64} (n : Nat) (hn : l.length = n) (h1 : SlAt ic 1 w a l) (h2 : SlAt ic 1 w b l) (hl : l.length ≤ 1000) :
    Calls Try.prog 12 #[.slice a n n, .slice b n n] w fun e w' => e = .returned (.bool true) ∧ Mod (fun _ => False) w w' := by
  subst hn
  refine (same_c a b l l _ _ w h1 h2 (by omega) (by omega)).mono ?_
  rintro e w' ⟨rfl, hm⟩
  exact ⟨by simp, hm⟩
def r1w : Role := ⟨k1, false, true⟩
def r1 : Role := ⟨k1, false, false⟩
def r2w : Role := ⟨k2, false, true⟩
def r2 : Role := ⟨k2, false, false⟩
theorem roles1 (r : Role) {w' : World} {b : Nat} (h : w'.heap[b]? = some (.cells (rcr r) 31 (0, 0))) : RolesAt w' (some ⟨b, 0, none⟩) [r] := SlAt.one h r rfl (rc_size _ _ _)
theorem roles2 (r s : Role) {w' : World} {b : Nat} (h : w'.heap[b]? = some (.cells (rcr r ++ rcr s) 31 (0, 0))) : RolesAt w' (some ⟨b, 0, none⟩) [r, s] := by
  have e1 : (rcr r).size = 34 := rc_size _ _ _
  have e2 : (rcr s).size = 34 := rc_size _ _ _
  refine .inr ⟨b, 0, _, _, _, rfl, h, fun i x hx => ?_⟩
  match i with
  | 0 =>
    simp at hx
    subst hx
    refine ⟨?_, by rw [Array.size_append]; omega⟩
    apply Array.toList_inj.1
    simp only [Array.toList_extract, Array.toList_append, List.extract, Nat.zero_mul, Nat.add_zero, List.drop_zero, Nat.sub_zero, Nat.zero_add]
    rw [List.take_append_of_le_length (by simp [e1]), List.take_of_length_le (by simp [e1])]
  | 1 =>
    simp at hx
    subst hx
    refine ⟨?_, by rw [Array.size_append]; omega⟩
    apply Array.toList_inj.1
    simp only [Array.toList_extract, Array.toList_append, List.extract]
    rw [List.drop_append_of_le_length (by simp [e1]), List.drop_of_length_le (by simp [e1]), List.nil_append, List.take_of_length_le (by simp [e2])]
  | i + 2 => simp at hx
theorem bsI1 (w : World) : (Instr.buildSlice 36 1 #[(0, .int .i64 1)]).run Try.prog w = .ok (.slice (some ⟨w.heap.size, 0, none⟩) 1 1) (w.alloc (.cells #[.int .i64 1] 3)) := by
  go_simp
  try rfl
theorem bsI2 (x y : Int) (w : World) : (Instr.buildSlice 36 2 #[(0, .int .i64 x), (1, .int .i64 y)]).run Try.prog w = .ok (.slice (some ⟨w.heap.size, 0, none⟩) 2 2) (w.alloc (.cells #[.int .i64 x, .int .i64 y] 3)) := by
  go_simp
  try rfl
theorem row1 {w : World} {p : Nat} (x : Int64) {z : Int} (hz : x.toInt = z) (h : w.heap[p]? = some (.cells #[.int .i64 z] 3 (0, 0))) : SlAt ic 1 w (some ⟨p, 0, none⟩) [x] := by
  subst hz
  refine .inr ⟨p, 0, _, _, _, rfl, h, fun i y hy => ?_⟩
  match i with
  | 0 => simp at hy; subst hy; exact ⟨rfl, by simp⟩
  | i + 1 => simp at hy
theorem row2 {w : World} {p : Nat} (x y : Int64) {z u : Int} (hz : x.toInt = z) (hu : y.toInt = u) (h : w.heap[p]? = some (.cells #[.int .i64 z, .int .i64 u] 3 (0, 0))) : SlAt ic 1 w (some ⟨p, 0, none⟩) [x, y] := by
  subst hz
  subst hu
  refine .inr ⟨p, 0, _, _, _, rfl, h, fun i y hy => ?_⟩
  match i with
  | 0 => simp at hy; subst hy; exact ⟨rfl, by simp⟩
  | 1 => simp at hy; subst hy; exact ⟨rfl, by simp⟩
  | i + 2 => simp at hy
theorem sameR {w : World} {v : Value} {b : Option Addr} {l : List Int64} {T : Nat → Prop} (n : Nat) (hn : l.length = n) (h1 : RowL l v T w) (h2 : SlAt ic 1 w b l) (hl : l.length ≤ 1000) :
    Calls Try.prog 12 #[v, .slice b n n] w fun e w' => ∃ v', e = .returned v' ∧ v' = .bool true ∧ Mod (fun _ => False) w w' := by
  obtain ⟨a, rfl, h1, _⟩ := h1
  rw [hn]
  exact (sameL n hn h1 h2 hl).mono fun e w' h => ⟨_, h.1, rfl, h.2⟩
def K1 : List Rn := [⟨1, 1, [r1w]⟩]
def K2 : List Rn := [⟨1, 1, [r1w]⟩, ⟨2, 1, [r1]⟩]
def K3 : List Rn := [⟨1, 1, [r1w]⟩, ⟨2, 1, [r1]⟩, ⟨3, 1, [r1, r2w]⟩]
def K4 : List Rn := [⟨1, 1, [r1w]⟩, ⟨2, 1, [r1]⟩, ⟨3, 1, [r1, r2w]⟩, ⟨4, 1, [r1w]⟩]
def K5 : List Rn := [⟨2, 1, [r1]⟩, ⟨3, 1, [r1, r2w]⟩, ⟨4, 1, [r1w]⟩]
def K6 : List Rn := [⟨2, 1, [r1]⟩, ⟨4, 1, [r1w]⟩]
def K7 : List Rn := [⟨2, 1, [r1]⟩, ⟨4, 1, [r1w]⟩, ⟨5, 5, [r2]⟩]
set_option maxRecDepth 20000 in
set_option maxHeartbeats 6400000 in
theorem lives_c (w : World) : Calls Try.prog 8 #[] w fun e w' => e = .returned (.bool true) ∧ Mod (fun _ => False) w w' := by
  have b1 := bk1
  have b2 := bk2
  go_enter Try.func8, Try.ntmps8
  go_upto_region 1 with fail
  refine wp_pass0 (C := fun _ _ _ => False) (κ := fun i => [0, 3, 4].getD i 0) [0, 1, 2] (by kernel_rfl) (by kernel_rfl) (fun _ _ d _ _ h => by cases d <;> first | exact h | exact absurd h (hP _ _ _)) ?_
  (refine TD.build (v := ?v1) (ps := ?p1) (by simp only [List.getElem?_toArray, List.getElem?_cons_succ, List.getElem?_cons_zero]; rfl) rfl ?hw1 rfl ?hx1 (fun w1 => ?hy1) ?hn1; (case hw1 => rfl); (case hx1 => (simp only [List.map_toArray, List.map_cons, List.map_nil, Act.eval, Array.getD_eq_getD_getElem?, List.getElem?_toArray, List.getElem?_cons_succ, List.getElem?_cons_zero, Option.getD_some]; (try rfl))); (case hy1 => (rw [b1]; (try with_reducible rfl))); (try simp only [Act.put, List.setIfInBounds_toArray, List.set_cons_zero, List.set_cons_succ]))
  (refine TD.allocB (by simp only [List.getElem?_toArray, List.getElem?_cons_succ, List.getElem?_cons_zero]; rfl) rfl ?hw2 rfl rfl alKey (fun p1 hp1 => ?hn2); (case hw2 => rfl); (try simp only [Act.put, List.setIfInBounds_toArray, List.set_cons_zero, List.set_cons_succ]))
  (refine TD.storeB (d := ?d3) (T := ?T3) (y := ?y3) (p := ?p3) (b := ?b3) (v := ?v3) (by simp only [List.getElem?_toArray, List.getElem?_cons_succ, List.getElem?_cons_zero]; rfl) rfl ?hw3 ?hd3 ?hop3 ?hev3 ?hx3 ?hb3 ?htag3 (fun w1 hb1 => ?hy3) ?hn3; (case hw3 => rfl); (case hd3 => rfl); (case hop3 => rfl); (case hev3 => (simp only [Act.eval, Array.getD_eq_getD_getElem?, List.getElem?_toArray, List.getElem?_cons_succ, List.getElem?_cons_zero, Option.getD_some]; (try rfl))); (case hx3 => (simp only [Act.eval, Array.getD_eq_getD_getElem?, List.getElem?_toArray, List.getElem?_cons_succ, List.getElem?_cons_zero, Option.getD_some]; (try rfl))); (case hb3 => first | exact Bx.set_same _ _ _ | (simp only [Bx.set_same]; rfl)); (case hy3 => (go_simp; (try first | with_reducible rfl | (rw [setCell_blk hb1]; rfl)))); (try simp only [Act.put, List.setIfInBounds_toArray, List.set_cons_zero, List.set_cons_succ]))
  refine TD.nil (fun w1 hr => ?_)
  have kp1 := hr.box p1 _ (by first | exact Bx.set_same _ _ _ | (simp only [Bx.set_same]; rfl)); dsimp only [Value.cells] at kp1; obtain ⟨gp1, kp1⟩ := kp1
  have m1 := hr.mod
  clear hr
  go_upto_region 2 with fail
  have Lkp1 := lt_size kp1
  refine wp_pass0 (C := fun _ _ _ => False) (κ := fun i => [0, 3, 4].getD i 0) [0, 1, 2] (by kernel_rfl) (by kernel_rfl) (fun _ _ d _ _ h => by cases d <;> first | exact h | exact absurd h (hP _ _ _)) ?_
  (refine TD.build (v := ?v4) (ps := ?p4) (by simp only [List.getElem?_toArray, List.getElem?_cons_succ, List.getElem?_cons_zero]; rfl) rfl ?hw4 rfl ?hx4 (fun w1 => ?hy4) ?hn4; (case hw4 => rfl); (case hx4 => (simp only [List.map_toArray, List.map_cons, List.map_nil, Act.eval, Array.getD_eq_getD_getElem?, List.getElem?_toArray, List.getElem?_cons_succ, List.getElem?_cons_zero, Option.getD_some]; (try rfl))); (case hy4 => (rw [b2]; (try with_reducible rfl))); (try simp only [Act.put, List.setIfInBounds_toArray, List.set_cons_zero, List.set_cons_succ]))
  (refine TD.allocB (by simp only [List.getElem?_toArray, List.getElem?_cons_succ, List.getElem?_cons_zero]; rfl) rfl ?hw5 rfl rfl alKey (fun p2 hp2 => ?hn5); (case hw5 => rfl); (try simp only [Act.put, List.setIfInBounds_toArray, List.set_cons_zero, List.set_cons_succ]))
  (refine TD.storeB (d := ?d6) (T := ?T6) (y := ?y6) (p := ?p6) (b := ?b6) (v := ?v6) (by simp only [List.getElem?_toArray, List.getElem?_cons_succ, List.getElem?_cons_zero]; rfl) rfl ?hw6 ?hd6 ?hop6 ?hev6 ?hx6 ?hb6 ?htag6 (fun w1 hb1 => ?hy6) ?hn6; (case hw6 => rfl); (case hd6 => rfl); (case hop6 => rfl); (case hev6 => (simp only [Act.eval, Array.getD_eq_getD_getElem?, List.getElem?_toArray, List.getElem?_cons_succ, List.getElem?_cons_zero, Option.getD_some]; (try rfl))); (case hx6 => (simp only [Act.eval, Array.getD_eq_getD_getElem?, List.getElem?_toArray, List.getElem?_cons_succ, List.getElem?_cons_zero, Option.getD_some]; (try rfl))); (case hb6 => first | exact Bx.set_same _ _ _ | (simp only [Bx.set_same]; rfl)); (case hy6 => (go_simp; (try first | with_reducible rfl | (rw [setCell_blk hb1]; rfl)))); (try simp only [Act.put, List.setIfInBounds_toArray, List.set_cons_zero, List.set_cons_succ]))
  refine TD.nil (fun w2 hr => ?_)
  have kp1 := hr.mod.at kp1 (fun h => h)
  have kp2 := hr.box p2 _ (by first | exact Bx.set_same _ _ _ | (simp only [Bx.set_same]; rfl)); dsimp only [Value.cells] at kp2; obtain ⟨gp2, kp2⟩ := kp2
  have m2 := m1.then0 hr.mod
  clear hr m1 b1 b2
  have HM := Lib.hid (And.intro m2 (And.intro kp1 kp2))
  clear m2 kp1 kp2
  go_wp2_with fail
  go_at_call 9
  refine (newR_c _).mono ?_
  rintro e w3 ⟨g, rfl, U, hA, m3, hT⟩
  have nU1 : ¬ U p1 := fun h => by have := hT _ h; have := lt_size HM.out.2.1; omega
  have nU2 : ¬ U p2 := fun h => by have := hT _ h; have := lt_size HM.out.2.2; omega
  have hUw : ∀ i, U i → w.heap.size ≤ i := fun i hi => by have := hT i hi; have := HM.out.1.size; omega
  have kp1 := m3.at0 HM.out.2.1
  have kp2 := m3.at0 HM.out.2.2
  have mm := HM.out.1.then0 m3
  have HUW := Lib.hid hUw
  clear m3 hT HM hUw
  have c1 := buildRole k1 true
  have c2 := buildRole1 k1
  have c3 := buildRole k2 true
  have s1 := bsRole r1w
  have s2 := bsRole r1
  have s3 := bsRole2 r1 r2w
  go_upto_region 4 with fail
  have Lkp1 := lt_size kp1
  have Lkp2 := lt_size kp2
  refine wp_gpass0 (T0 := U) (K := GL g 0 []) (κ := fun i => [0, 0, 0, 3, 6, 0, 0, 0, 0, 0, 3, 6, 0, 0, 0, 0, 0, 0, 0, 0, 3, 6, 0, 0, 0, 0, 0, 0, 3, 6, 0, 0].getD i 0) (υ := fun i => [[], [], [], [], [16], [], [], [], [], [], [], [23], [], [], [], [], [], [], [], [], [], [33], [], [], [], [], [], [], [], [41], [], []].getD i []) [0, 1, 2, 3, 4, 5, 6, 7, 8, 9, 10, 11, 12, 13, 14, 15, 16, 17, 18, 19, 20, 21, 22, 23, 24, 25, 26, 27, 28, 29, 30, 31] (by kernel_rfl) (by kernel_rfl) (goodGL g 0 []).cl (hA.1) (hA.2) ?_
  have gK := goodGL g 0 []
  (refine TG.v0 (v := ?v7) (by simp only [List.getElem?_toArray, List.getElem?_cons_succ, List.getElem?_cons_zero]; rfl) rfl ?hw7 (fun w1 => ?hy7) ?hn7; (case hw7 => rfl); (case hy7 => (go_simp; (try with_reducible rfl))); (try simp only [Act.put, List.setIfInBounds_toArray, List.set_cons_zero, List.set_cons_succ]))
  (refine TG.load (v := ?v8) (p := ?p8) (by simp only [List.getElem?_toArray, List.getElem?_cons_succ, List.getElem?_cons_zero]; rfl) rfl ?hw8 rfl ?hx8 (fun wq hSq => ?hy8) ?hn8; (case hw8 => rfl); (case hx8 => (simp only [Act.eval, Array.getD_eq_getD_getElem?, List.getElem?_toArray, List.getElem?_cons_succ, List.getElem?_cons_zero, Option.getD_some]; (try rfl))); (case hy8 => (have kp1q := hSq.at kp1 (by intro hT; first | exact hT | exact absurd hT (by assumption) | omega | (simp only at hT; omega)); have kp2q := hSq.at kp2 (by intro hT; first | exact hT | exact absurd hT (by assumption) | omega | (simp only at hT; omega)); go_simp; (try with_reducible rfl))); (try simp only [Act.put, List.setIfInBounds_toArray, List.set_cons_zero, List.set_cons_succ]))
  (refine TG.build (v := ?v9) (ps := ?p9) (by simp only [List.getElem?_toArray, List.getElem?_cons_succ, List.getElem?_cons_zero]; rfl) rfl ?hw9 rfl ?hx9 (fun w1 => ?hy9) ?hn9; (case hw9 => rfl); (case hx9 => (simp only [List.map_toArray, List.map_cons, List.map_nil, Act.eval, Array.getD_eq_getD_getElem?, List.getElem?_toArray, List.getElem?_cons_succ, List.getElem?_cons_zero, Option.getD_some]; (try rfl))); (case hy9 => (rw [c1]; (try with_reducible rfl))); (try simp only [Act.put, List.setIfInBounds_toArray, List.set_cons_zero, List.set_cons_succ]))
  (refine TG.bslice (by simp only [List.getElem?_toArray, List.getElem?_cons_succ, List.getElem?_cons_zero]; rfl) rfl ?hw10 rfl rfl ?hx10 s1 (fun p16 hp16 _ => ?hn10); (case hw10 => rfl); (case hx10 => (simp only [List.map_toArray, List.map_cons, List.map_nil, Act.eval, Array.getD_eq_getD_getElem?, List.getElem?_toArray, List.getElem?_cons_succ, List.getElem?_cons_zero, Option.getD_some]; (try rfl))); (try simp only [Act.put, List.setIfInBounds_toArray, List.set_cons_zero, List.set_cons_succ]))
  (refine TG.callK (f := ?f11) (args := ?r11) (VG (.int .i64 0) g 1 K1) (goodVG (.int .i64 0) g 1 K1) (by simp only [List.getElem?_toArray, List.getElem?_cons_succ, List.getElem?_cons_zero]; rfl) rfl ?hw11 (fun w1 => ?hy11) (fun T wq kq ltq hSq ub => ?hsp11) ?hn11; (case hw11 => rfl); (case hy11 => (go_simp; (first | with_reducible rfl | (constructor <;> with_reducible rfl)))); (case hsp11 => (have kp1q := hSq.at kp1 (by intro hT; first | exact hT | exact absurd hT (by assumption) | omega | (simp only at hT; omega)); have kp2q := hSq.at kp2 (by intro hT; first | exact hT | exact absurd hT (by assumption) | omega | (simp only at hT; omega)); have kp16 := ub.box (p := p16) (by first | exact Bx.set_same _ _ _ | (simp only [Bx.set_same]; rfl)) (by first | decide | exact List.mem_singleton.2 rfl | simp); dsimp only [Value.cells] at kp16; have nUp16 := (ub p16 _ (by first | exact Bx.set_same _ _ _ | (simp only [Bx.set_same]; rfl)) (by first | decide | exact List.mem_singleton.2 rfl | simp)).1; exact putL kq ltq (by omega) 1 1 rfl [r1w] 1 1 rfl (roles1 r1w kp16) (fun _ b o e => by cases e; exact nUp16) (by decide) (fun x hx => by cases hx) rfl)); rintro v11 ⟨wI, TI, hI⟩; replace gK := (goodVG (.int .i64 0) g 1 K1) v11; obtain ⟨rfl, _⟩ := hI.k; (try clear hI TI wI); (try simp only [Act.put, List.setIfInBounds_toArray, List.set_cons_zero, List.set_cons_succ]))
  (refine TG.v0 (v := ?v12) (by simp only [List.getElem?_toArray, List.getElem?_cons_succ, List.getElem?_cons_zero]; rfl) rfl ?hw12 (fun w1 => ?hy12) ?hn12; (case hw12 => rfl); (case hy12 => (go_simp; (try with_reducible rfl))); (try simp only [Act.put, List.setIfInBounds_toArray, List.set_cons_zero, List.set_cons_succ]))
  (refine TG.v0 (v := ?v13) (by simp only [List.getElem?_toArray, List.getElem?_cons_succ, List.getElem?_cons_zero]; rfl) rfl ?hw13 (fun w1 => ?hy13) ?hn13; (case hw13 => rfl); (case hy13 => (go_simp; (try with_reducible rfl))); (try simp only [Act.put, List.setIfInBounds_toArray, List.set_cons_zero, List.set_cons_succ]))
  (refine TG.v0 (v := ?v14) (by simp only [List.getElem?_toArray, List.getElem?_cons_succ, List.getElem?_cons_zero]; rfl) rfl ?hw14 (fun w1 => ?hy14) ?hn14; (case hw14 => rfl); (case hy14 => (go_simp; (try with_reducible rfl))); (try simp only [Act.put, List.setIfInBounds_toArray, List.set_cons_zero, List.set_cons_succ]))
  (refine TG.load (v := ?v15) (p := ?p15) (by simp only [List.getElem?_toArray, List.getElem?_cons_succ, List.getElem?_cons_zero]; rfl) rfl ?hw15 rfl ?hx15 (fun wq hSq => ?hy15) ?hn15; (case hw15 => rfl); (case hx15 => (simp only [Act.eval, Array.getD_eq_getD_getElem?, List.getElem?_toArray, List.getElem?_cons_succ, List.getElem?_cons_zero, Option.getD_some]; (try rfl))); (case hy15 => (have kp1q := hSq.at kp1 (by intro hT; first | exact hT | exact absurd hT (by assumption) | omega | (simp only at hT; omega)); have kp2q := hSq.at kp2 (by intro hT; first | exact hT | exact absurd hT (by assumption) | omega | (simp only at hT; omega)); go_simp; (try with_reducible rfl))); (try simp only [Act.put, List.setIfInBounds_toArray, List.set_cons_zero, List.set_cons_succ]))
  (refine TG.build (v := ?v16) (ps := ?p16) (by simp only [List.getElem?_toArray, List.getElem?_cons_succ, List.getElem?_cons_zero]; rfl) rfl ?hw16 rfl ?hx16 (fun w1 => ?hy16) ?hn16; (case hw16 => rfl); (case hx16 => (simp only [List.map_toArray, List.map_cons, List.map_nil, Act.eval, Array.getD_eq_getD_getElem?, List.getElem?_toArray, List.getElem?_cons_succ, List.getElem?_cons_zero, Option.getD_some]; (try rfl))); (case hy16 => (rw [c2]; (try with_reducible rfl))); (try simp only [Act.put, List.setIfInBounds_toArray, List.set_cons_zero, List.set_cons_succ]))
  (refine TG.bslice (by simp only [List.getElem?_toArray, List.getElem?_cons_succ, List.getElem?_cons_zero]; rfl) rfl ?hw17 rfl rfl ?hx17 s2 (fun p23 hp23 _ => ?hn17); (case hw17 => rfl); (case hx17 => (simp only [List.map_toArray, List.map_cons, List.map_nil, Act.eval, Array.getD_eq_getD_getElem?, List.getElem?_toArray, List.getElem?_cons_succ, List.getElem?_cons_zero, Option.getD_some]; (try rfl))); (try simp only [Act.put, List.setIfInBounds_toArray, List.set_cons_zero, List.set_cons_succ]))
  obtain ⟨ne_p23_p16, hp23⟩ := Bx.set_none hp23
  (refine TG.callK (f := ?f18) (args := ?r18) (VG (.int .i64 0) g 2 K2) (goodVG (.int .i64 0) g 2 K2) (by simp only [List.getElem?_toArray, List.getElem?_cons_succ, List.getElem?_cons_zero]; rfl) rfl ?hw18 (fun w1 => ?hy18) (fun T wq kq ltq hSq ub => ?hsp18) ?hn18; (case hw18 => rfl); (case hy18 => (go_simp; (first | with_reducible rfl | (constructor <;> with_reducible rfl)))); (case hsp18 => (have kp1q := hSq.at kp1 (by intro hT; first | exact hT | exact absurd hT (by assumption) | omega | (simp only at hT; omega)); have kp2q := hSq.at kp2 (by intro hT; first | exact hT | exact absurd hT (by assumption) | omega | (simp only at hT; omega)); have kp23 := ub.box (p := p23) (by first | exact Bx.set_same _ _ _ | (simp only [Bx.set_ne _ (Ne.symm ne_p23_p16), Bx.set_ne _ ne_p23_p16, Bx.set_same]; rfl)) (by first | decide | exact List.mem_singleton.2 rfl | simp); dsimp only [Value.cells] at kp23; have nUp23 := (ub p23 _ (by first | exact Bx.set_same _ _ _ | (simp only [Bx.set_ne _ (Ne.symm ne_p23_p16), Bx.set_ne _ ne_p23_p16, Bx.set_same]; rfl)) (by first | decide | exact List.mem_singleton.2 rfl | simp)).1; exact putL kq.2 ltq (by omega) 2 2 rfl [r1] 1 1 rfl (roles1 r1 kp23) (fun _ b o e => by cases e; exact nUp23) (by decide) (by decide) rfl)); rintro v18 ⟨wI, TI, hI⟩; replace gK := (goodVG (.int .i64 0) g 2 K2) v18; obtain ⟨rfl, _⟩ := hI.k; (try clear hI TI wI); (try simp only [Act.put, List.setIfInBounds_toArray, List.set_cons_zero, List.set_cons_succ]))
  (refine TG.v0 (v := ?v19) (by simp only [List.getElem?_toArray, List.getElem?_cons_succ, List.getElem?_cons_zero]; rfl) rfl ?hw19 (fun w1 => ?hy19) ?hn19; (case hw19 => rfl); (case hy19 => (go_simp; (try with_reducible rfl))); (try simp only [Act.put, List.setIfInBounds_toArray, List.set_cons_zero, List.set_cons_succ]))
  (refine TG.v0 (v := ?v20) (by simp only [List.getElem?_toArray, List.getElem?_cons_succ, List.getElem?_cons_zero]; rfl) rfl ?hw20 (fun w1 => ?hy20) ?hn20; (case hw20 => rfl); (case hy20 => (go_simp; (try with_reducible rfl))); (try simp only [Act.put, List.setIfInBounds_toArray, List.set_cons_zero, List.set_cons_succ]))
  (refine TG.v0 (v := ?v21) (by simp only [List.getElem?_toArray, List.getElem?_cons_succ, List.getElem?_cons_zero]; rfl) rfl ?hw21 (fun w1 => ?hy21) ?hn21; (case hw21 => rfl); (case hy21 => (go_simp; (try with_reducible rfl))); (try simp only [Act.put, List.setIfInBounds_toArray, List.set_cons_zero, List.set_cons_succ]))
  (refine TG.v0 (v := ?v22) (by simp only [List.getElem?_toArray, List.getElem?_cons_succ, List.getElem?_cons_zero]; rfl) rfl ?hw22 (fun w1 => ?hy22) ?hn22; (case hw22 => rfl); (case hy22 => (go_simp; (try with_reducible rfl))); (try simp only [Act.put, List.setIfInBounds_toArray, List.set_cons_zero, List.set_cons_succ]))
  (refine TG.load (v := ?v23) (p := ?p23) (by simp only [List.getElem?_toArray, List.getElem?_cons_succ, List.getElem?_cons_zero]; rfl) rfl ?hw23 rfl ?hx23 (fun wq hSq => ?hy23) ?hn23; (case hw23 => rfl); (case hx23 => (simp only [Act.eval, Array.getD_eq_getD_getElem?, List.getElem?_toArray, List.getElem?_cons_succ, List.getElem?_cons_zero, Option.getD_some]; (try rfl))); (case hy23 => (have kp1q := hSq.at kp1 (by intro hT; first | exact hT | exact absurd hT (by assumption) | omega | (simp only at hT; omega)); have kp2q := hSq.at kp2 (by intro hT; first | exact hT | exact absurd hT (by assumption) | omega | (simp only at hT; omega)); go_simp; (try with_reducible rfl))); (try simp only [Act.put, List.setIfInBounds_toArray, List.set_cons_zero, List.set_cons_succ]))
  (refine TG.build (v := ?v24) (ps := ?p24) (by simp only [List.getElem?_toArray, List.getElem?_cons_succ, List.getElem?_cons_zero]; rfl) rfl ?hw24 rfl ?hx24 (fun w1 => ?hy24) ?hn24; (case hw24 => rfl); (case hx24 => (simp only [List.map_toArray, List.map_cons, List.map_nil, Act.eval, Array.getD_eq_getD_getElem?, List.getElem?_toArray, List.getElem?_cons_succ, List.getElem?_cons_zero, Option.getD_some]; (try rfl))); (case hy24 => (rw [c2]; (try with_reducible rfl))); (try simp only [Act.put, List.setIfInBounds_toArray, List.set_cons_zero, List.set_cons_succ]))
  (refine TG.load (v := ?v25) (p := ?p25) (by simp only [List.getElem?_toArray, List.getElem?_cons_succ, List.getElem?_cons_zero]; rfl) rfl ?hw25 rfl ?hx25 (fun wq hSq => ?hy25) ?hn25; (case hw25 => rfl); (case hx25 => (simp only [Act.eval, Array.getD_eq_getD_getElem?, List.getElem?_toArray, List.getElem?_cons_succ, List.getElem?_cons_zero, Option.getD_some]; (try rfl))); (case hy25 => (have kp1q := hSq.at kp1 (by intro hT; first | exact hT | exact absurd hT (by assumption) | omega | (simp only at hT; omega)); have kp2q := hSq.at kp2 (by intro hT; first | exact hT | exact absurd hT (by assumption) | omega | (simp only at hT; omega)); go_simp; (try with_reducible rfl))); (try simp only [Act.put, List.setIfInBounds_toArray, List.set_cons_zero, List.set_cons_succ]))
  (refine TG.build (v := ?v26) (ps := ?p26) (by simp only [List.getElem?_toArray, List.getElem?_cons_succ, List.getElem?_cons_zero]; rfl) rfl ?hw26 rfl ?hx26 (fun w1 => ?hy26) ?hn26; (case hw26 => rfl); (case hx26 => (simp only [List.map_toArray, List.map_cons, List.map_nil, Act.eval, Array.getD_eq_getD_getElem?, List.getElem?_toArray, List.getElem?_cons_succ, List.getElem?_cons_zero, Option.getD_some]; (try rfl))); (case hy26 => (rw [c3]; (try with_reducible rfl))); (try simp only [Act.put, List.setIfInBounds_toArray, List.set_cons_zero, List.set_cons_succ]))
  (refine TG.bslice (by simp only [List.getElem?_toArray, List.getElem?_cons_succ, List.getElem?_cons_zero]; rfl) rfl ?hw27 rfl rfl ?hx27 s3 (fun p33 hp33 _ => ?hn27); (case hw27 => rfl); (case hx27 => (simp only [List.map_toArray, List.map_cons, List.map_nil, Act.eval, Array.getD_eq_getD_getElem?, List.getElem?_toArray, List.getElem?_cons_succ, List.getElem?_cons_zero, Option.getD_some]; (try rfl))); (try simp only [Act.put, List.setIfInBounds_toArray, List.set_cons_zero, List.set_cons_succ]))
  obtain ⟨ne_p33_p23, hp33⟩ := Bx.set_none hp33
  obtain ⟨ne_p33_p16, hp33⟩ := Bx.set_none hp33
  (refine TG.callK (f := ?f28) (args := ?r28) (VG (.int .i64 0) g 3 K3) (goodVG (.int .i64 0) g 3 K3) (by simp only [List.getElem?_toArray, List.getElem?_cons_succ, List.getElem?_cons_zero]; rfl) rfl ?hw28 (fun w1 => ?hy28) (fun T wq kq ltq hSq ub => ?hsp28) ?hn28; (case hw28 => rfl); (case hy28 => (go_simp; (first | with_reducible rfl | (constructor <;> with_reducible rfl)))); (case hsp28 => (have kp1q := hSq.at kp1 (by intro hT; first | exact hT | exact absurd hT (by assumption) | omega | (simp only at hT; omega)); have kp2q := hSq.at kp2 (by intro hT; first | exact hT | exact absurd hT (by assumption) | omega | (simp only at hT; omega)); have kp33 := ub.box (p := p33) (by first | exact Bx.set_same _ _ _ | (simp only [Bx.set_ne _ (Ne.symm ne_p23_p16), Bx.set_ne _ (Ne.symm ne_p33_p16), Bx.set_ne _ (Ne.symm ne_p33_p23), Bx.set_ne _ ne_p23_p16, Bx.set_ne _ ne_p33_p16, Bx.set_ne _ ne_p33_p23, Bx.set_same]; rfl)) (by first | decide | exact List.mem_singleton.2 rfl | simp); dsimp only [Value.cells] at kp33; have nUp33 := (ub p33 _ (by first | exact Bx.set_same _ _ _ | (simp only [Bx.set_ne _ (Ne.symm ne_p23_p16), Bx.set_ne _ (Ne.symm ne_p33_p16), Bx.set_ne _ (Ne.symm ne_p33_p23), Bx.set_ne _ ne_p23_p16, Bx.set_ne _ ne_p33_p16, Bx.set_ne _ ne_p33_p23, Bx.set_same]; rfl)) (by first | decide | exact List.mem_singleton.2 rfl | simp)).1; exact putL kq.2 ltq (by omega) 3 3 rfl [r1, r2w] 2 2 rfl (roles2 r1 r2w kp33) (fun _ b o e => by cases e; exact nUp33) (by decide) (by decide) rfl)); rintro v28 ⟨wI, TI, hI⟩; replace gK := (goodVG (.int .i64 0) g 3 K3) v28; obtain ⟨rfl, _⟩ := hI.k; (try clear hI TI wI); (try simp only [Act.put, List.setIfInBounds_toArray, List.set_cons_zero, List.set_cons_succ]))
  (refine TG.v0 (v := ?v29) (by simp only [List.getElem?_toArray, List.getElem?_cons_succ, List.getElem?_cons_zero]; rfl) rfl ?hw29 (fun w1 => ?hy29) ?hn29; (case hw29 => rfl); (case hy29 => (go_simp; (try with_reducible rfl))); (try simp only [Act.put, List.setIfInBounds_toArray, List.set_cons_zero, List.set_cons_succ]))
  (refine TG.v0 (v := ?v30) (by simp only [List.getElem?_toArray, List.getElem?_cons_succ, List.getElem?_cons_zero]; rfl) rfl ?hw30 (fun w1 => ?hy30) ?hn30; (case hw30 => rfl); (case hy30 => (go_simp; (try with_reducible rfl))); (try simp only [Act.put, List.setIfInBounds_toArray, List.set_cons_zero, List.set_cons_succ]))
  (refine TG.v0 (v := ?v31) (by simp only [List.getElem?_toArray, List.getElem?_cons_succ, List.getElem?_cons_zero]; rfl) rfl ?hw31 (fun w1 => ?hy31) ?hn31; (case hw31 => rfl); (case hy31 => (go_simp; (try with_reducible rfl))); (try simp only [Act.put, List.setIfInBounds_toArray, List.set_cons_zero, List.set_cons_succ]))
  (refine TG.v0 (v := ?v32) (by simp only [List.getElem?_toArray, List.getElem?_cons_succ, List.getElem?_cons_zero]; rfl) rfl ?hw32 (fun w1 => ?hy32) ?hn32; (case hw32 => rfl); (case hy32 => (go_simp; (try with_reducible rfl))); (try simp only [Act.put, List.setIfInBounds_toArray, List.set_cons_zero, List.set_cons_succ]))
  (refine TG.load (v := ?v33) (p := ?p33) (by simp only [List.getElem?_toArray, List.getElem?_cons_succ, List.getElem?_cons_zero]; rfl) rfl ?hw33 rfl ?hx33 (fun wq hSq => ?hy33) ?hn33; (case hw33 => rfl); (case hx33 => (simp only [Act.eval, Array.getD_eq_getD_getElem?, List.getElem?_toArray, List.getElem?_cons_succ, List.getElem?_cons_zero, Option.getD_some]; (try rfl))); (case hy33 => (have kp1q := hSq.at kp1 (by intro hT; first | exact hT | exact absurd hT (by assumption) | omega | (simp only at hT; omega)); have kp2q := hSq.at kp2 (by intro hT; first | exact hT | exact absurd hT (by assumption) | omega | (simp only at hT; omega)); go_simp; (try with_reducible rfl))); (try simp only [Act.put, List.setIfInBounds_toArray, List.set_cons_zero, List.set_cons_succ]))
  (refine TG.build (v := ?v34) (ps := ?p34) (by simp only [List.getElem?_toArray, List.getElem?_cons_succ, List.getElem?_cons_zero]; rfl) rfl ?hw34 rfl ?hx34 (fun w1 => ?hy34) ?hn34; (case hw34 => rfl); (case hx34 => (simp only [List.map_toArray, List.map_cons, List.map_nil, Act.eval, Array.getD_eq_getD_getElem?, List.getElem?_toArray, List.getElem?_cons_succ, List.getElem?_cons_zero, Option.getD_some]; (try rfl))); (case hy34 => (rw [c1]; (try with_reducible rfl))); (try simp only [Act.put, List.setIfInBounds_toArray, List.set_cons_zero, List.set_cons_succ]))
  (refine TG.bslice (by simp only [List.getElem?_toArray, List.getElem?_cons_succ, List.getElem?_cons_zero]; rfl) rfl ?hw35 rfl rfl ?hx35 s1 (fun p41 hp41 _ => ?hn35); (case hw35 => rfl); (case hx35 => (simp only [List.map_toArray, List.map_cons, List.map_nil, Act.eval, Array.getD_eq_getD_getElem?, List.getElem?_toArray, List.getElem?_cons_succ, List.getElem?_cons_zero, Option.getD_some]; (try rfl))); (try simp only [Act.put, List.setIfInBounds_toArray, List.set_cons_zero, List.set_cons_succ]))
  obtain ⟨ne_p41_p33, hp41⟩ := Bx.set_none hp41
  obtain ⟨ne_p41_p23, hp41⟩ := Bx.set_none hp41
  obtain ⟨ne_p41_p16, hp41⟩ := Bx.set_none hp41
  (refine TG.callK (f := ?f36) (args := ?r36) (VG (.int .i64 0) g 4 K4) (goodVG (.int .i64 0) g 4 K4) (by simp only [List.getElem?_toArray, List.getElem?_cons_succ, List.getElem?_cons_zero]; rfl) rfl ?hw36 (fun w1 => ?hy36) (fun T wq kq ltq hSq ub => ?hsp36) ?hn36; (case hw36 => rfl); (case hy36 => (go_simp; (first | with_reducible rfl | (constructor <;> with_reducible rfl)))); (case hsp36 => (have kp1q := hSq.at kp1 (by intro hT; first | exact hT | exact absurd hT (by assumption) | omega | (simp only at hT; omega)); have kp2q := hSq.at kp2 (by intro hT; first | exact hT | exact absurd hT (by assumption) | omega | (simp only at hT; omega)); have kp41 := ub.box (p := p41) (by first | exact Bx.set_same _ _ _ | (simp only [Bx.set_ne _ (Ne.symm ne_p23_p16), Bx.set_ne _ (Ne.symm ne_p33_p16), Bx.set_ne _ (Ne.symm ne_p33_p23), Bx.set_ne _ (Ne.symm ne_p41_p16), Bx.set_ne _ (Ne.symm ne_p41_p23), Bx.set_ne _ (Ne.symm ne_p41_p33), Bx.set_ne _ ne_p23_p16, Bx.set_ne _ ne_p33_p16, Bx.set_ne _ ne_p33_p23, Bx.set_ne _ ne_p41_p16, Bx.set_ne _ ne_p41_p23, Bx.set_ne _ ne_p41_p33, Bx.set_same]; rfl)) (by first | decide | exact List.mem_singleton.2 rfl | simp); dsimp only [Value.cells] at kp41; have nUp41 := (ub p41 _ (by first | exact Bx.set_same _ _ _ | (simp only [Bx.set_ne _ (Ne.symm ne_p23_p16), Bx.set_ne _ (Ne.symm ne_p33_p16), Bx.set_ne _ (Ne.symm ne_p33_p23), Bx.set_ne _ (Ne.symm ne_p41_p16), Bx.set_ne _ (Ne.symm ne_p41_p23), Bx.set_ne _ (Ne.symm ne_p41_p33), Bx.set_ne _ ne_p23_p16, Bx.set_ne _ ne_p33_p16, Bx.set_ne _ ne_p33_p23, Bx.set_ne _ ne_p41_p16, Bx.set_ne _ ne_p41_p23, Bx.set_ne _ ne_p41_p33, Bx.set_same]; rfl)) (by first | decide | exact List.mem_singleton.2 rfl | simp)).1; exact putL kq.2 ltq (by omega) 4 4 rfl [r1w] 1 1 rfl (roles1 r1w kp41) (fun _ b o e => by cases e; exact nUp41) (by decide) (by decide) rfl)); rintro v36 ⟨wI, TI, hI⟩; replace gK := (goodVG (.int .i64 0) g 4 K4) v36; obtain ⟨rfl, _⟩ := hI.k; (try clear hI TI wI); (try simp only [Act.put, List.setIfInBounds_toArray, List.set_cons_zero, List.set_cons_succ]))
  (refine TG.v0 (v := ?v37) (by simp only [List.getElem?_toArray, List.getElem?_cons_succ, List.getElem?_cons_zero]; rfl) rfl ?hw37 (fun w1 => ?hy37) ?hn37; (case hw37 => rfl); (case hy37 => (go_simp; (try with_reducible rfl))); (try simp only [Act.put, List.setIfInBounds_toArray, List.set_cons_zero, List.set_cons_succ]))
  (refine TG.v0 (v := ?v38) (by simp only [List.getElem?_toArray, List.getElem?_cons_succ, List.getElem?_cons_zero]; rfl) rfl ?hw38 (fun w1 => ?hy38) ?hn38; (case hw38 => rfl); (case hy38 => (go_simp; (try with_reducible rfl))); (try simp only [Act.put, List.setIfInBounds_toArray, List.set_cons_zero, List.set_cons_succ]))
  refine TG.nil (fun w4 ⟨TR, hr⟩ => ?_)
  have kp1 := hr.mod.at kp1 (by intro hT; first | exact hT | exact absurd hT (by assumption) | omega | (simp only at hT; omega))
  have kp2 := hr.mod.at kp2 (by intro hT; first | exact hT | exact absurd hT (by assumption) | omega | (simp only at hT; omega))
  have kp16 := hr.box p16 _ (by first | exact Bx.set_same _ _ _ | (simp only [Bx.set_ne _ (Ne.symm ne_p23_p16), Bx.set_ne _ (Ne.symm ne_p33_p16), Bx.set_ne _ (Ne.symm ne_p33_p23), Bx.set_ne _ (Ne.symm ne_p41_p16), Bx.set_ne _ (Ne.symm ne_p41_p23), Bx.set_ne _ (Ne.symm ne_p41_p33), Bx.set_ne _ ne_p23_p16, Bx.set_ne _ ne_p33_p16, Bx.set_ne _ ne_p33_p23, Bx.set_ne _ ne_p41_p16, Bx.set_ne _ ne_p41_p23, Bx.set_ne _ ne_p41_p33, Bx.set_same]; rfl)); dsimp only [Value.cells] at kp16; obtain ⟨gp16, nTp16, kp16⟩ := kp16
  have kp23 := hr.box p23 _ (by first | exact Bx.set_same _ _ _ | (simp only [Bx.set_ne _ (Ne.symm ne_p23_p16), Bx.set_ne _ (Ne.symm ne_p33_p16), Bx.set_ne _ (Ne.symm ne_p33_p23), Bx.set_ne _ (Ne.symm ne_p41_p16), Bx.set_ne _ (Ne.symm ne_p41_p23), Bx.set_ne _ (Ne.symm ne_p41_p33), Bx.set_ne _ ne_p23_p16, Bx.set_ne _ ne_p33_p16, Bx.set_ne _ ne_p33_p23, Bx.set_ne _ ne_p41_p16, Bx.set_ne _ ne_p41_p23, Bx.set_ne _ ne_p41_p33, Bx.set_same]; rfl)); dsimp only [Value.cells] at kp23; obtain ⟨gp23, nTp23, kp23⟩ := kp23
  have kp33 := hr.box p33 _ (by first | exact Bx.set_same _ _ _ | (simp only [Bx.set_ne _ (Ne.symm ne_p23_p16), Bx.set_ne _ (Ne.symm ne_p33_p16), Bx.set_ne _ (Ne.symm ne_p33_p23), Bx.set_ne _ (Ne.symm ne_p41_p16), Bx.set_ne _ (Ne.symm ne_p41_p23), Bx.set_ne _ (Ne.symm ne_p41_p33), Bx.set_ne _ ne_p23_p16, Bx.set_ne _ ne_p33_p16, Bx.set_ne _ ne_p33_p23, Bx.set_ne _ ne_p41_p16, Bx.set_ne _ ne_p41_p23, Bx.set_ne _ ne_p41_p33, Bx.set_same]; rfl)); dsimp only [Value.cells] at kp33; obtain ⟨gp33, nTp33, kp33⟩ := kp33
  have kp41 := hr.box p41 _ (by first | exact Bx.set_same _ _ _ | (simp only [Bx.set_ne _ (Ne.symm ne_p23_p16), Bx.set_ne _ (Ne.symm ne_p33_p16), Bx.set_ne _ (Ne.symm ne_p33_p23), Bx.set_ne _ (Ne.symm ne_p41_p16), Bx.set_ne _ (Ne.symm ne_p41_p23), Bx.set_ne _ (Ne.symm ne_p41_p33), Bx.set_ne _ ne_p23_p16, Bx.set_ne _ ne_p33_p16, Bx.set_ne _ ne_p33_p23, Bx.set_ne _ ne_p41_p16, Bx.set_ne _ ne_p41_p23, Bx.set_ne _ ne_p41_p33, Bx.set_same]; rfl)); dsimp only [Value.cells] at kp41; obtain ⟨gp41, nTp41, kp41⟩ := kp41
  clear gK
  have hA4 : GL g 4 K4 TR w4 := hr.k.2
  have hl4 := hr.lt
  have nV1 : ¬ TR p1 := fun h => nU1 (hr.old p1 (lt_size (by assumption : w3.heap[p1]? = _)) h)
  have nV2 : ¬ TR p2 := fun h => nU2 (hr.old p2 Lkp2 h)
  have hVw : ∀ i, TR i → w.heap.size ≤ i := fun i hi => by
    rcases Nat.lt_or_ge i w3.heap.size with h | h
    · exact HUW.out i (hr.old i h hi)
    · have := mm.size; omega
  have m4 : Mod (fun _ => False) w w4 := mm.then hr.mod (fun i hi h => by have := HUW.out i h; omega)
  clear hr hA nU1 nU2 mm HUW c1 c2 s1 s2 s3 c3
  have HV := Lib.hid (And.intro hVw m4)
  clear hVw m4
  generalize TR = V at *
  have HA := Lib.hid (And.intro hA4 hl4)
  go_wp2_with fail
  go_at_call 11
  refine (chainL HA.out.1 HA.out.2 ⟨3, 1, [r1, r2w]⟩ (by simp [K4]) 3 1 rfl rfl).mono ?_
  rintro e w5 ⟨rfl, rfl⟩
  go_wp2_with fail
  go_at_call 11
  refine (chainL HA.out.1 HA.out.2 ⟨4, 1, [r1w]⟩ (by simp [K4]) 4 1 rfl rfl).mono ?_
  rintro e w6 ⟨rfl, rfl⟩
  have c4 := buildRole1 k2
  have s4 := bsRole r2
  have i1 := bsI1
  have i2 := bsI2 2 3
  go_upto_region 8 with fail
  have Lkp1 := lt_size kp1
  have Lkp2 := lt_size kp2
  refine wp_gpass0 (T0 := V) (K := GL g 4 K4) (κ := fun i => [0, 6, 3, 6, 0, 0, 0, 6, 0, 0, 0, 0, 0, 0, 0, 0, 0, 0, 0, 0, 0, 0, 0, 0, 0, 0, 0, 0, 6, 0, 0, 0, 0, 6, 3, 6, 0, 0, 0, 0, 6, 0, 0, 0, 0, 0, 0, 3, 6, 0, 0].getD i 0) (υ := fun i => [[], [], [], [57], [], [], [], [], [], [], [], [], [], [], [], [], [], [], [], [], [], [], [], [], [], [], [], [], [], [], [], [], [], [], [], [89], [], [], [], [], [], [], [], [], [], [], [], [], [102], [], []].getD i []) [0, 1, 2, 3, 4, 5, 6, 7, 8, 9, 10, 11, 12, 13, 14, 15, 16, 17, 18, 19, 20, 21, 22, 23, 24, 25, 26, 27, 28, 29, 30, 31, 32, 33, 34, 35, 36, 37, 38, 39, 40, 41, 42, 43, 44, 45, 46, 47, 48, 49, 50] (by kernel_rfl) (by kernel_rfl) (goodGL g 4 K4).cl (HA.out.1) (HA.out.2) ?_
  have gK := goodGL g 4 K4
  (refine TG.v0 (v := ?v39) (by simp only [List.getElem?_toArray, List.getElem?_cons_succ, List.getElem?_cons_zero]; rfl) rfl ?hw39 (fun w1 => ?hy39) ?hn39; (case hw39 => rfl); (case hy39 => (go_simp; (try with_reducible rfl))); (try simp only [Act.put, List.setIfInBounds_toArray, List.set_cons_zero, List.set_cons_succ]))
  (refine TG.callM (f := ?f40) (args := ?r40) (RowL [1]) (goodRow [1]) gK (by simp only [List.getElem?_toArray, List.getElem?_cons_succ, List.getElem?_cons_zero]; rfl) rfl ?hw40 (fun w1 => ?hy40) (fun T wq kq ltq hSq ub => ?hsp40) ?hn40; (case hw40 => rfl); (case hy40 => (go_simp; (first | with_reducible rfl | (constructor <;> with_reducible rfl)))); (case hsp40 => (have kp1q := hSq.at kp1 (by intro hT; first | exact hT | exact absurd hT (by assumption) | omega | (simp only at hT; omega)); have kp2q := hSq.at kp2 (by intro hT; first | exact hT | exact absurd hT (by assumption) | omega | (simp only at hT; omega)); exact readyL kq ltq [1] rfl)); rintro v40 ⟨wI, TI, hI⟩; replace gK := gK.and ((goodRow [1]) v40); skip; (try clear hI TI wI); (try simp only [Act.put, List.setIfInBounds_toArray, List.set_cons_zero, List.set_cons_succ]))
  (refine TG.bslice (by simp only [List.getElem?_toArray, List.getElem?_cons_succ, List.getElem?_cons_zero]; rfl) rfl ?hw41 rfl rfl ?hx41 i1 (fun p57 hp57 _ => ?hn41); (case hw41 => rfl); (case hx41 => (simp only [List.map_toArray, List.map_cons, List.map_nil, Act.eval, Array.getD_eq_getD_getElem?, List.getElem?_toArray, List.getElem?_cons_succ, List.getElem?_cons_zero, Option.getD_some]; (try rfl))); (try simp only [Act.put, List.setIfInBounds_toArray, List.set_cons_zero, List.set_cons_succ]))
  (refine TG.callN (f := ?f42) (args := ?r42) (fun v => v = .bool true) gK (by simp only [List.getElem?_toArray, List.getElem?_cons_succ, List.getElem?_cons_zero]; rfl) rfl ?hw42 (fun w1 => ?hy42) (fun T wq kq ltq hSq ub => ?hsp42) ?hn42; (case hw42 => rfl); (case hy42 => (go_simp; (first | with_reducible rfl | (constructor <;> with_reducible rfl)))); (case hsp42 => (have kp1q := hSq.at kp1 (by intro hT; first | exact hT | exact absurd hT (by assumption) | omega | (simp only at hT; omega)); have kp2q := hSq.at kp2 (by intro hT; first | exact hT | exact absurd hT (by assumption) | omega | (simp only at hT; omega)); have kp57 := ub.box (p := p57) (by first | exact Bx.set_same _ _ _ | (simp only [Bx.set_same]; rfl)) (by first | decide | exact List.mem_singleton.2 rfl | simp); dsimp only [Value.cells] at kp57; have nUp57 := (ub p57 _ (by first | exact Bx.set_same _ _ _ | (simp only [Bx.set_same]; rfl)) (by first | decide | exact List.mem_singleton.2 rfl | simp)).1; exact sameR 1 rfl kq.2 (row1 1 rfl kp57) (by decide))); rintro v42 hC; obtain rfl := hC; (try simp only [Act.put, List.setIfInBounds_toArray, List.set_cons_zero, List.set_cons_succ]))
  (refine TG.v0 (v := ?v43) (by simp only [List.getElem?_toArray, List.getElem?_cons_succ, List.getElem?_cons_zero]; rfl) rfl ?hw43 (fun w1 => ?hy43) ?hn43; (case hw43 => rfl); (case hy43 => (go_simp; (try with_reducible rfl))); (try simp only [Act.put, List.setIfInBounds_toArray, List.set_cons_zero, List.set_cons_succ]))
  (refine TG.v0 (v := ?v44) (by simp only [List.getElem?_toArray, List.getElem?_cons_succ, List.getElem?_cons_zero]; rfl) rfl ?hw44 (fun w1 => ?hy44) ?hn44; (case hw44 => rfl); (case hy44 => (go_simp; (try with_reducible rfl))); (try simp only [Act.put, List.setIfInBounds_toArray, List.set_cons_zero, List.set_cons_succ]))
  (refine TG.v0 (v := ?v45) (by simp only [List.getElem?_toArray, List.getElem?_cons_succ, List.getElem?_cons_zero]; rfl) rfl ?hw45 (fun w1 => ?hy45) ?hn45; (case hw45 => rfl); (case hy45 => (go_simp; (try with_reducible rfl))); (try simp only [Act.put, List.setIfInBounds_toArray, List.set_cons_zero, List.set_cons_succ]))
  (refine TG.callK (f := ?f46) (args := ?r46) (VG (.int .i64 23) g 4 K4) (goodVG (.int .i64 23) g 4 K4) (by simp only [List.getElem?_toArray, List.getElem?_cons_succ, List.getElem?_cons_zero]; rfl) rfl ?hw46 (fun w1 => ?hy46) (fun T wq kq ltq hSq ub => ?hsp46) ?hn46; (case hw46 => rfl); (case hy46 => (go_simp; (first | with_reducible rfl | (constructor <;> with_reducible rfl)))); (case hsp46 => (have kp1q := hSq.at kp1 (by intro hT; first | exact hT | exact absurd hT (by assumption) | omega | (simp only at hT; omega)); have kp2q := hSq.at kp2 (by intro hT; first | exact hT | exact absurd hT (by assumption) | omega | (simp only at hT; omega)); exact popBL (X := [⟨1, 1, [r1w]⟩]) (x := ⟨2, 1, [r1]⟩) (Y := [⟨3, 1, [r1, r2w]⟩, ⟨4, 1, [r1w]⟩]) kq.1 ltq rfl 2 rfl rfl)); rintro v46 ⟨wI, TI, hI⟩; replace gK := (goodVG (.int .i64 23) g 4 K4) v46; obtain ⟨rfl, _⟩ := hI.k; (try clear hI TI wI); (try simp only [Act.put, List.setIfInBounds_toArray, List.set_cons_zero, List.set_cons_succ]))
  (refine TG.v0 (v := ?v47) (by simp only [List.getElem?_toArray, List.getElem?_cons_succ, List.getElem?_cons_zero]; rfl) rfl ?hw47 (fun w1 => ?hy47) ?hn47; (case hw47 => rfl); (case hy47 => (go_simp; (try with_reducible rfl))); (try simp only [Act.put, List.setIfInBounds_toArray, List.set_cons_zero, List.set_cons_succ]))
  (refine TG.v0 (v := ?v48) (by simp only [List.getElem?_toArray, List.getElem?_cons_succ, List.getElem?_cons_zero]; rfl) rfl ?hw48 (fun w1 => ?hy48) ?hn48; (case hw48 => rfl); (case hy48 => (go_simp; (try with_reducible rfl))); (try simp only [Act.put, List.setIfInBounds_toArray, List.set_cons_zero, List.set_cons_succ]))
  (refine TG.v0 (v := ?v49) (by simp only [List.getElem?_toArray, List.getElem?_cons_succ, List.getElem?_cons_zero]; rfl) rfl ?hw49 (fun w1 => ?hy49) ?hn49; (case hw49 => rfl); (case hy49 => (go_simp; (try with_reducible rfl))); (try simp only [Act.put, List.setIfInBounds_toArray, List.set_cons_zero, List.set_cons_succ]))
  (refine TG.v0 (v := ?v50) (by simp only [List.getElem?_toArray, List.getElem?_cons_succ, List.getElem?_cons_zero]; rfl) rfl ?hw50 (fun w1 => ?hy50) ?hn50; (case hw50 => rfl); (case hy50 => (go_simp; (try with_reducible rfl))); (try simp only [Act.put, List.setIfInBounds_toArray, List.set_cons_zero, List.set_cons_succ]))
  (refine TG.v0 (v := ?v51) (by simp only [List.getElem?_toArray, List.getElem?_cons_succ, List.getElem?_cons_zero]; rfl) rfl ?hw51 (fun w1 => ?hy51) ?hn51; (case hw51 => rfl); (case hy51 => (go_simp; (try with_reducible rfl))); (try simp only [Act.put, List.setIfInBounds_toArray, List.set_cons_zero, List.set_cons_succ]))
  (refine TG.v0 (v := ?v52) (by simp only [List.getElem?_toArray, List.getElem?_cons_succ, List.getElem?_cons_zero]; rfl) rfl ?hw52 (fun w1 => ?hy52) ?hn52; (case hw52 => rfl); (case hy52 => (go_simp; (try with_reducible rfl))); (try simp only [Act.put, List.setIfInBounds_toArray, List.set_cons_zero, List.set_cons_succ]))
  (refine TG.v0 (v := ?v53) (by simp only [List.getElem?_toArray, List.getElem?_cons_succ, List.getElem?_cons_zero]; rfl) rfl ?hw53 (fun w1 => ?hy53) ?hn53; (case hw53 => rfl); (case hy53 => (go_simp; (try with_reducible rfl))); (try simp only [Act.put, List.setIfInBounds_toArray, List.set_cons_zero, List.set_cons_succ]))
  (refine TG.v0 (v := ?v54) (by simp only [List.getElem?_toArray, List.getElem?_cons_succ, List.getElem?_cons_zero]; rfl) rfl ?hw54 (fun w1 => ?hy54) ?hn54; (case hw54 => rfl); (case hy54 => (go_simp; (try with_reducible rfl))); (try simp only [Act.put, List.setIfInBounds_toArray, List.set_cons_zero, List.set_cons_succ]))
  (refine TG.v0 (v := ?v55) (by simp only [List.getElem?_toArray, List.getElem?_cons_succ, List.getElem?_cons_zero]; rfl) rfl ?hw55 (fun w1 => ?hy55) ?hn55; (case hw55 => rfl); (case hy55 => (go_simp; (try with_reducible rfl))); (try simp only [Act.put, List.setIfInBounds_toArray, List.set_cons_zero, List.set_cons_succ]))
  (refine TG.v0 (v := ?v56) (by simp only [List.getElem?_toArray, List.getElem?_cons_succ, List.getElem?_cons_zero]; rfl) rfl ?hw56 (fun w1 => ?hy56) ?hn56; (case hw56 => rfl); (case hy56 => (go_simp; (try with_reducible rfl))); (try simp only [Act.put, List.setIfInBounds_toArray, List.set_cons_zero, List.set_cons_succ]))
  (refine TG.v0 (v := ?v57) (by simp only [List.getElem?_toArray, List.getElem?_cons_succ, List.getElem?_cons_zero]; rfl) rfl ?hw57 (fun w1 => ?hy57) ?hn57; (case hw57 => rfl); (case hy57 => (go_simp; (try with_reducible rfl))); (try simp only [Act.put, List.setIfInBounds_toArray, List.set_cons_zero, List.set_cons_succ]))
  (refine TG.v0 (v := ?v58) (by simp only [List.getElem?_toArray, List.getElem?_cons_succ, List.getElem?_cons_zero]; rfl) rfl ?hw58 (fun w1 => ?hy58) ?hn58; (case hw58 => rfl); (case hy58 => (go_simp; (try with_reducible rfl))); (try simp only [Act.put, List.setIfInBounds_toArray, List.set_cons_zero, List.set_cons_succ]))
  (refine TG.v0 (v := ?v59) (by simp only [List.getElem?_toArray, List.getElem?_cons_succ, List.getElem?_cons_zero]; rfl) rfl ?hw59 (fun w1 => ?hy59) ?hn59; (case hw59 => rfl); (case hy59 => (go_simp; (try with_reducible rfl))); (try simp only [Act.put, List.setIfInBounds_toArray, List.set_cons_zero, List.set_cons_succ]))
  (refine TG.v0 (v := ?v60) (by simp only [List.getElem?_toArray, List.getElem?_cons_succ, List.getElem?_cons_zero]; rfl) rfl ?hw60 (fun w1 => ?hy60) ?hn60; (case hw60 => rfl); (case hy60 => (go_simp; (try with_reducible rfl))); (try simp only [Act.put, List.setIfInBounds_toArray, List.set_cons_zero, List.set_cons_succ]))
  (refine TG.v0 (v := ?v61) (by simp only [List.getElem?_toArray, List.getElem?_cons_succ, List.getElem?_cons_zero]; rfl) rfl ?hw61 (fun w1 => ?hy61) ?hn61; (case hw61 => rfl); (case hy61 => (go_simp; (try with_reducible rfl))); (try simp only [Act.put, List.setIfInBounds_toArray, List.set_cons_zero, List.set_cons_succ]))
  (refine TG.v0 (v := ?v62) (by simp only [List.getElem?_toArray, List.getElem?_cons_succ, List.getElem?_cons_zero]; rfl) rfl ?hw62 (fun w1 => ?hy62) ?hn62; (case hw62 => rfl); (case hy62 => (go_simp; (try with_reducible rfl))); (try simp only [Act.put, List.setIfInBounds_toArray, List.set_cons_zero, List.set_cons_succ]))
  (refine TG.v0 (v := ?v63) (by simp only [List.getElem?_toArray, List.getElem?_cons_succ, List.getElem?_cons_zero]; rfl) rfl ?hw63 (fun w1 => ?hy63) ?hn63; (case hw63 => rfl); (case hy63 => (go_simp; (try with_reducible rfl))); (try simp only [Act.put, List.setIfInBounds_toArray, List.set_cons_zero, List.set_cons_succ]))
  (refine TG.v0 (v := ?v64) (by simp only [List.getElem?_toArray, List.getElem?_cons_succ, List.getElem?_cons_zero]; rfl) rfl ?hw64 (fun w1 => ?hy64) ?hn64; (case hw64 => rfl); (case hy64 => (go_simp; (try with_reducible rfl))); (try simp only [Act.put, List.setIfInBounds_toArray, List.set_cons_zero, List.set_cons_succ]))
  (refine TG.v0 (v := ?v65) (by simp only [List.getElem?_toArray, List.getElem?_cons_succ, List.getElem?_cons_zero]; rfl) rfl ?hw65 (fun w1 => ?hy65) ?hn65; (case hw65 => rfl); (case hy65 => (go_simp; (try with_reducible rfl))); (try simp only [Act.put, List.setIfInBounds_toArray, List.set_cons_zero, List.set_cons_succ]))
  (refine TG.v0 (v := ?v66) (by simp only [List.getElem?_toArray, List.getElem?_cons_succ, List.getElem?_cons_zero]; rfl) rfl ?hw66 (fun w1 => ?hy66) ?hn66; (case hw66 => rfl); (case hy66 => (go_simp; (try with_reducible rfl))); (try simp only [Act.put, List.setIfInBounds_toArray, List.set_cons_zero, List.set_cons_succ]))
  (refine TG.callK (f := ?f67) (args := ?r67) (VG (.int .i64 0) g 4 K5) (goodVG (.int .i64 0) g 4 K5) (by simp only [List.getElem?_toArray, List.getElem?_cons_succ, List.getElem?_cons_zero]; rfl) rfl ?hw67 (fun w1 => ?hy67) (fun T wq kq ltq hSq ub => ?hsp67) ?hn67; (case hw67 => rfl); (case hy67 => (go_simp; (first | with_reducible rfl | (constructor <;> with_reducible rfl)))); (case hsp67 => (have kp1q := hSq.at kp1 (by intro hT; first | exact hT | exact absurd hT (by assumption) | omega | (simp only at hT; omega)); have kp2q := hSq.at kp2 (by intro hT; first | exact hT | exact absurd hT (by assumption) | omega | (simp only at hT; omega)); exact popRL (X := []) (x := ⟨1, 1, [r1w]⟩) (Y := K5) kq.2 ltq rfl 1 rfl rfl)); rintro v67 ⟨wI, TI, hI⟩; replace gK := (goodVG (.int .i64 0) g 4 K5) v67; obtain ⟨rfl, _⟩ := hI.k; (try clear hI TI wI); (try simp only [Act.put, List.setIfInBounds_toArray, List.set_cons_zero, List.set_cons_succ]))
  (refine TG.v0 (v := ?v68) (by simp only [List.getElem?_toArray, List.getElem?_cons_succ, List.getElem?_cons_zero]; rfl) rfl ?hw68 (fun w1 => ?hy68) ?hn68; (case hw68 => rfl); (case hy68 => (go_simp; (try with_reducible rfl))); (try simp only [Act.put, List.setIfInBounds_toArray, List.set_cons_zero, List.set_cons_succ]))
  (refine TG.v0 (v := ?v69) (by simp only [List.getElem?_toArray, List.getElem?_cons_succ, List.getElem?_cons_zero]; rfl) rfl ?hw69 (fun w1 => ?hy69) ?hn69; (case hw69 => rfl); (case hy69 => (go_simp; (try with_reducible rfl))); (try simp only [Act.put, List.setIfInBounds_toArray, List.set_cons_zero, List.set_cons_succ]))
  (refine TG.v0 (v := ?v70) (by simp only [List.getElem?_toArray, List.getElem?_cons_succ, List.getElem?_cons_zero]; rfl) rfl ?hw70 (fun w1 => ?hy70) ?hn70; (case hw70 => rfl); (case hy70 => (go_simp; (try with_reducible rfl))); (try simp only [Act.put, List.setIfInBounds_toArray, List.set_cons_zero, List.set_cons_succ]))
  (refine TG.v0 (v := ?v71) (by simp only [List.getElem?_toArray, List.getElem?_cons_succ, List.getElem?_cons_zero]; rfl) rfl ?hw71 (fun w1 => ?hy71) ?hn71; (case hw71 => rfl); (case hy71 => (go_simp; (try with_reducible rfl))); (try simp only [Act.put, List.setIfInBounds_toArray, List.set_cons_zero, List.set_cons_succ]))
  (refine TG.callM (f := ?f72) (args := ?r72) (RowL [2, 3]) (goodRow [2, 3]) gK (by simp only [List.getElem?_toArray, List.getElem?_cons_succ, List.getElem?_cons_zero]; rfl) rfl ?hw72 (fun w1 => ?hy72) (fun T wq kq ltq hSq ub => ?hsp72) ?hn72; (case hw72 => rfl); (case hy72 => (go_simp; (first | with_reducible rfl | (constructor <;> with_reducible rfl)))); (case hsp72 => (have kp1q := hSq.at kp1 (by intro hT; first | exact hT | exact absurd hT (by assumption) | omega | (simp only at hT; omega)); have kp2q := hSq.at kp2 (by intro hT; first | exact hT | exact absurd hT (by assumption) | omega | (simp only at hT; omega)); exact readyL kq.2 ltq [2, 3] rfl)); rintro v72 ⟨wI, TI, hI⟩; replace gK := gK.and ((goodRow [2, 3]) v72); skip; (try clear hI TI wI); (try simp only [Act.put, List.setIfInBounds_toArray, List.set_cons_zero, List.set_cons_succ]))
  (refine TG.bslice (by simp only [List.getElem?_toArray, List.getElem?_cons_succ, List.getElem?_cons_zero]; rfl) rfl ?hw73 rfl rfl ?hx73 i2 (fun p89 hp89 _ => ?hn73); (case hw73 => rfl); (case hx73 => (simp only [List.map_toArray, List.map_cons, List.map_nil, Act.eval, Array.getD_eq_getD_getElem?, List.getElem?_toArray, List.getElem?_cons_succ, List.getElem?_cons_zero, Option.getD_some]; (try rfl))); (try simp only [Act.put, List.setIfInBounds_toArray, List.set_cons_zero, List.set_cons_succ]))
  obtain ⟨ne_p89_p57, hp89⟩ := Bx.set_none hp89
  (refine TG.callN (f := ?f74) (args := ?r74) (fun v => v = .bool true) gK (by simp only [List.getElem?_toArray, List.getElem?_cons_succ, List.getElem?_cons_zero]; rfl) rfl ?hw74 (fun w1 => ?hy74) (fun T wq kq ltq hSq ub => ?hsp74) ?hn74; (case hw74 => rfl); (case hy74 => (go_simp; (first | with_reducible rfl | (constructor <;> with_reducible rfl)))); (case hsp74 => (have kp1q := hSq.at kp1 (by intro hT; first | exact hT | exact absurd hT (by assumption) | omega | (simp only at hT; omega)); have kp2q := hSq.at kp2 (by intro hT; first | exact hT | exact absurd hT (by assumption) | omega | (simp only at hT; omega)); have kp89 := ub.box (p := p89) (by first | exact Bx.set_same _ _ _ | (simp only [Bx.set_ne _ (Ne.symm ne_p89_p57), Bx.set_ne _ ne_p89_p57, Bx.set_same]; rfl)) (by first | decide | exact List.mem_singleton.2 rfl | simp); dsimp only [Value.cells] at kp89; have nUp89 := (ub p89 _ (by first | exact Bx.set_same _ _ _ | (simp only [Bx.set_ne _ (Ne.symm ne_p89_p57), Bx.set_ne _ ne_p89_p57, Bx.set_same]; rfl)) (by first | decide | exact List.mem_singleton.2 rfl | simp)).1; exact sameR 2 rfl kq.2 (row2 2 3 rfl rfl kp89) (by decide))); rintro v74 hC; obtain rfl := hC; (try simp only [Act.put, List.setIfInBounds_toArray, List.set_cons_zero, List.set_cons_succ]))
  (refine TG.v0 (v := ?v75) (by simp only [List.getElem?_toArray, List.getElem?_cons_succ, List.getElem?_cons_zero]; rfl) rfl ?hw75 (fun w1 => ?hy75) ?hn75; (case hw75 => rfl); (case hy75 => (go_simp; (try with_reducible rfl))); (try simp only [Act.put, List.setIfInBounds_toArray, List.set_cons_zero, List.set_cons_succ]))
  (refine TG.v0 (v := ?v76) (by simp only [List.getElem?_toArray, List.getElem?_cons_succ, List.getElem?_cons_zero]; rfl) rfl ?hw76 (fun w1 => ?hy76) ?hn76; (case hw76 => rfl); (case hy76 => (go_simp; (try with_reducible rfl))); (try simp only [Act.put, List.setIfInBounds_toArray, List.set_cons_zero, List.set_cons_succ]))
  (refine TG.v0 (v := ?v77) (by simp only [List.getElem?_toArray, List.getElem?_cons_succ, List.getElem?_cons_zero]; rfl) rfl ?hw77 (fun w1 => ?hy77) ?hn77; (case hw77 => rfl); (case hy77 => (go_simp; (try with_reducible rfl))); (try simp only [Act.put, List.setIfInBounds_toArray, List.set_cons_zero, List.set_cons_succ]))
  (refine TG.v0 (v := ?v78) (by simp only [List.getElem?_toArray, List.getElem?_cons_succ, List.getElem?_cons_zero]; rfl) rfl ?hw78 (fun w1 => ?hy78) ?hn78; (case hw78 => rfl); (case hy78 => (go_simp; (try with_reducible rfl))); (try simp only [Act.put, List.setIfInBounds_toArray, List.set_cons_zero, List.set_cons_succ]))
  (refine TG.callK (f := ?f79) (args := ?r79) (VG (.int .i64 0) g 4 K6) (goodVG (.int .i64 0) g 4 K6) (by simp only [List.getElem?_toArray, List.getElem?_cons_succ, List.getElem?_cons_zero]; rfl) rfl ?hw79 (fun w1 => ?hy79) (fun T wq kq ltq hSq ub => ?hsp79) ?hn79; (case hw79 => rfl); (case hy79 => (go_simp; (first | with_reducible rfl | (constructor <;> with_reducible rfl)))); (case hsp79 => (have kp1q := hSq.at kp1 (by intro hT; first | exact hT | exact absurd hT (by assumption) | omega | (simp only at hT; omega)); have kp2q := hSq.at kp2 (by intro hT; first | exact hT | exact absurd hT (by assumption) | omega | (simp only at hT; omega)); exact popRL (X := [⟨2, 1, [r1]⟩]) (x := ⟨3, 1, [r1, r2w]⟩) (Y := [⟨4, 1, [r1w]⟩]) kq.1.2 ltq rfl 3 rfl rfl)); rintro v79 ⟨wI, TI, hI⟩; replace gK := (goodVG (.int .i64 0) g 4 K6) v79; obtain ⟨rfl, _⟩ := hI.k; (try clear hI TI wI); (try simp only [Act.put, List.setIfInBounds_toArray, List.set_cons_zero, List.set_cons_succ]))
  (refine TG.v0 (v := ?v80) (by simp only [List.getElem?_toArray, List.getElem?_cons_succ, List.getElem?_cons_zero]; rfl) rfl ?hw80 (fun w1 => ?hy80) ?hn80; (case hw80 => rfl); (case hy80 => (go_simp; (try with_reducible rfl))); (try simp only [Act.put, List.setIfInBounds_toArray, List.set_cons_zero, List.set_cons_succ]))
  (refine TG.v0 (v := ?v81) (by simp only [List.getElem?_toArray, List.getElem?_cons_succ, List.getElem?_cons_zero]; rfl) rfl ?hw81 (fun w1 => ?hy81) ?hn81; (case hw81 => rfl); (case hy81 => (go_simp; (try with_reducible rfl))); (try simp only [Act.put, List.setIfInBounds_toArray, List.set_cons_zero, List.set_cons_succ]))
  (refine TG.v0 (v := ?v82) (by simp only [List.getElem?_toArray, List.getElem?_cons_succ, List.getElem?_cons_zero]; rfl) rfl ?hw82 (fun w1 => ?hy82) ?hn82; (case hw82 => rfl); (case hy82 => (go_simp; (try with_reducible rfl))); (try simp only [Act.put, List.setIfInBounds_toArray, List.set_cons_zero, List.set_cons_succ]))
  (refine TG.v0 (v := ?v83) (by simp only [List.getElem?_toArray, List.getElem?_cons_succ, List.getElem?_cons_zero]; rfl) rfl ?hw83 (fun w1 => ?hy83) ?hn83; (case hw83 => rfl); (case hy83 => (go_simp; (try with_reducible rfl))); (try simp only [Act.put, List.setIfInBounds_toArray, List.set_cons_zero, List.set_cons_succ]))
  (refine TG.load (v := ?v84) (p := ?p84) (by simp only [List.getElem?_toArray, List.getElem?_cons_succ, List.getElem?_cons_zero]; rfl) rfl ?hw84 rfl ?hx84 (fun wq hSq => ?hy84) ?hn84; (case hw84 => rfl); (case hx84 => (simp only [Act.eval, Array.getD_eq_getD_getElem?, List.getElem?_toArray, List.getElem?_cons_succ, List.getElem?_cons_zero, Option.getD_some]; (try rfl))); (case hy84 => (have kp1q := hSq.at kp1 (by intro hT; first | exact hT | exact absurd hT (by assumption) | omega | (simp only at hT; omega)); have kp2q := hSq.at kp2 (by intro hT; first | exact hT | exact absurd hT (by assumption) | omega | (simp only at hT; omega)); go_simp; (try with_reducible rfl))); (try simp only [Act.put, List.setIfInBounds_toArray, List.set_cons_zero, List.set_cons_succ]))
  (refine TG.build (v := ?v85) (ps := ?p85) (by simp only [List.getElem?_toArray, List.getElem?_cons_succ, List.getElem?_cons_zero]; rfl) rfl ?hw85 rfl ?hx85 (fun w1 => ?hy85) ?hn85; (case hw85 => rfl); (case hx85 => (simp only [List.map_toArray, List.map_cons, List.map_nil, Act.eval, Array.getD_eq_getD_getElem?, List.getElem?_toArray, List.getElem?_cons_succ, List.getElem?_cons_zero, Option.getD_some]; (try rfl))); (case hy85 => (rw [c4]; (try with_reducible rfl))); (try simp only [Act.put, List.setIfInBounds_toArray, List.set_cons_zero, List.set_cons_succ]))
  (refine TG.bslice (by simp only [List.getElem?_toArray, List.getElem?_cons_succ, List.getElem?_cons_zero]; rfl) rfl ?hw86 rfl rfl ?hx86 s4 (fun p102 hp102 _ => ?hn86); (case hw86 => rfl); (case hx86 => (simp only [List.map_toArray, List.map_cons, List.map_nil, Act.eval, Array.getD_eq_getD_getElem?, List.getElem?_toArray, List.getElem?_cons_succ, List.getElem?_cons_zero, Option.getD_some]; (try rfl))); (try simp only [Act.put, List.setIfInBounds_toArray, List.set_cons_zero, List.set_cons_succ]))
  obtain ⟨ne_p102_p89, hp102⟩ := Bx.set_none hp102
  obtain ⟨ne_p102_p57, hp102⟩ := Bx.set_none hp102
  (refine TG.callK (f := ?f87) (args := ?r87) (VG (.int .i64 0) g 5 K7) (goodVG (.int .i64 0) g 5 K7) (by simp only [List.getElem?_toArray, List.getElem?_cons_succ, List.getElem?_cons_zero]; rfl) rfl ?hw87 (fun w1 => ?hy87) (fun T wq kq ltq hSq ub => ?hsp87) ?hn87; (case hw87 => rfl); (case hy87 => (go_simp; (first | with_reducible rfl | (constructor <;> with_reducible rfl)))); (case hsp87 => (have kp1q := hSq.at kp1 (by intro hT; first | exact hT | exact absurd hT (by assumption) | omega | (simp only at hT; omega)); have kp2q := hSq.at kp2 (by intro hT; first | exact hT | exact absurd hT (by assumption) | omega | (simp only at hT; omega)); have kp102 := ub.box (p := p102) (by first | exact Bx.set_same _ _ _ | (simp only [Bx.set_ne _ (Ne.symm ne_p89_p57), Bx.set_ne _ (Ne.symm ne_p102_p57), Bx.set_ne _ (Ne.symm ne_p102_p89), Bx.set_ne _ ne_p89_p57, Bx.set_ne _ ne_p102_p57, Bx.set_ne _ ne_p102_p89, Bx.set_same]; rfl)) (by first | decide | exact List.mem_singleton.2 rfl | simp); dsimp only [Value.cells] at kp102; have nUp102 := (ub p102 _ (by first | exact Bx.set_same _ _ _ | (simp only [Bx.set_ne _ (Ne.symm ne_p89_p57), Bx.set_ne _ (Ne.symm ne_p102_p57), Bx.set_ne _ (Ne.symm ne_p102_p89), Bx.set_ne _ ne_p89_p57, Bx.set_ne _ ne_p102_p57, Bx.set_ne _ ne_p102_p89, Bx.set_same]; rfl)) (by first | decide | exact List.mem_singleton.2 rfl | simp)).1; exact putL kq.2 ltq (by omega) 5 5 rfl [r2] 1 1 rfl (roles1 r2 kp102) (fun _ b o e => by cases e; exact nUp102) (by decide) (by decide) rfl)); rintro v87 ⟨wI, TI, hI⟩; replace gK := (goodVG (.int .i64 0) g 5 K7) v87; obtain ⟨rfl, _⟩ := hI.k; (try clear hI TI wI); (try simp only [Act.put, List.setIfInBounds_toArray, List.set_cons_zero, List.set_cons_succ]))
  (refine TG.v0 (v := ?v88) (by simp only [List.getElem?_toArray, List.getElem?_cons_succ, List.getElem?_cons_zero]; rfl) rfl ?hw88 (fun w1 => ?hy88) ?hn88; (case hw88 => rfl); (case hy88 => (go_simp; (try with_reducible rfl))); (try simp only [Act.put, List.setIfInBounds_toArray, List.set_cons_zero, List.set_cons_succ]))
  (refine TG.v0 (v := ?v89) (by simp only [List.getElem?_toArray, List.getElem?_cons_succ, List.getElem?_cons_zero]; rfl) rfl ?hw89 (fun w1 => ?hy89) ?hn89; (case hw89 => rfl); (case hy89 => (go_simp; (try with_reducible rfl))); (try simp only [Act.put, List.setIfInBounds_toArray, List.set_cons_zero, List.set_cons_succ]))
  refine TG.nil (fun w7 ⟨TR, hr⟩ => ?_)
  have kp1 := hr.mod.at kp1 (by intro hT; first | exact hT | exact absurd hT (by assumption) | omega | (simp only at hT; omega))
  have kp2 := hr.mod.at kp2 (by intro hT; first | exact hT | exact absurd hT (by assumption) | omega | (simp only at hT; omega))
  have kp57 := hr.box p57 _ (by first | exact Bx.set_same _ _ _ | (simp only [Bx.set_ne _ (Ne.symm ne_p89_p57), Bx.set_ne _ (Ne.symm ne_p102_p57), Bx.set_ne _ (Ne.symm ne_p102_p89), Bx.set_ne _ ne_p89_p57, Bx.set_ne _ ne_p102_p57, Bx.set_ne _ ne_p102_p89, Bx.set_same]; rfl)); dsimp only [Value.cells] at kp57; obtain ⟨gp57, nTp57, kp57⟩ := kp57
  have kp89 := hr.box p89 _ (by first | exact Bx.set_same _ _ _ | (simp only [Bx.set_ne _ (Ne.symm ne_p89_p57), Bx.set_ne _ (Ne.symm ne_p102_p57), Bx.set_ne _ (Ne.symm ne_p102_p89), Bx.set_ne _ ne_p89_p57, Bx.set_ne _ ne_p102_p57, Bx.set_ne _ ne_p102_p89, Bx.set_same]; rfl)); dsimp only [Value.cells] at kp89; obtain ⟨gp89, nTp89, kp89⟩ := kp89
  have kp102 := hr.box p102 _ (by first | exact Bx.set_same _ _ _ | (simp only [Bx.set_ne _ (Ne.symm ne_p89_p57), Bx.set_ne _ (Ne.symm ne_p102_p57), Bx.set_ne _ (Ne.symm ne_p102_p89), Bx.set_ne _ ne_p89_p57, Bx.set_ne _ ne_p102_p57, Bx.set_ne _ ne_p102_p89, Bx.set_same]; rfl)); dsimp only [Value.cells] at kp102; obtain ⟨gp102, nTp102, kp102⟩ := kp102
  clear gK
  have hA7 : GL g 5 K7 TR w7 := hr.k.2
  have hl7 := hr.lt
  have hWw : ∀ i, TR i → w.heap.size ≤ i := fun i hi => by
    rcases Nat.lt_or_ge i w6.heap.size with h | h
    · exact HV.out.1 i (hr.old i h hi)
    · have := HV.out.2.size; omega
  have m7 : Mod (fun _ => False) w w7 := HV.out.2.then hr.mod (fun i hi h => by have := HV.out.1 i h; omega)
  clear hr HA nV1 nV2 HV c4 s4 i1 i2
  have HW := Lib.hid (And.intro hWw m7)
  clear hWw m7
  generalize TR = W7 at *
  have HA := Lib.hid (And.intro hA7 hl7)
  go_wp2_with fail
  go_at_call 11
  refine (chainL HA.out.1 HA.out.2 ⟨5, 5, [r2]⟩ (by simp [K7]) 5 5 rfl rfl).mono ?_
  rintro e w8 ⟨rfl, rfl⟩
  have i2 := bsI2 2 5
  go_upto_region 11 with fail
  refine wp_gpass0 (T0 := W7) (K := GL g 5 K7) (κ := fun i => [0, 6, 3, 6, 0, 0, 0, 0, 0, 0, 0, 0, 0].getD i 0) (υ := fun i => [[], [], [], [113], [], [], [], [], [], [], [], [], []].getD i []) [0, 1, 2, 3, 4, 5, 6, 7, 8, 9, 10, 11, 12] (by kernel_rfl) (by kernel_rfl) (goodGL g 5 K7).cl (HA.out.1) (HA.out.2) ?_
  have gK := goodGL g 5 K7
  (refine TG.v0 (v := ?v90) (by simp only [List.getElem?_toArray, List.getElem?_cons_succ, List.getElem?_cons_zero]; rfl) rfl ?hw90 (fun w1 => ?hy90) ?hn90; (case hw90 => rfl); (case hy90 => (go_simp; (try with_reducible rfl))); (try simp only [Act.put, List.setIfInBounds_toArray, List.set_cons_zero, List.set_cons_succ]))
  (refine TG.callM (f := ?f91) (args := ?r91) (RowL [2, 5]) (goodRow [2, 5]) gK (by simp only [List.getElem?_toArray, List.getElem?_cons_succ, List.getElem?_cons_zero]; rfl) rfl ?hw91 (fun w1 => ?hy91) (fun T wq kq ltq hSq ub => ?hsp91) ?hn91; (case hw91 => rfl); (case hy91 => (go_simp; (first | with_reducible rfl | (constructor <;> with_reducible rfl)))); (case hsp91 => (exact readyL kq ltq [2, 5] rfl)); rintro v91 ⟨wI, TI, hI⟩; replace gK := gK.and ((goodRow [2, 5]) v91); skip; (try clear hI TI wI); (try simp only [Act.put, List.setIfInBounds_toArray, List.set_cons_zero, List.set_cons_succ]))
  (refine TG.bslice (by simp only [List.getElem?_toArray, List.getElem?_cons_succ, List.getElem?_cons_zero]; rfl) rfl ?hw92 rfl rfl ?hx92 i2 (fun p113 hp113 _ => ?hn92); (case hw92 => rfl); (case hx92 => (simp only [List.map_toArray, List.map_cons, List.map_nil, Act.eval, Array.getD_eq_getD_getElem?, List.getElem?_toArray, List.getElem?_cons_succ, List.getElem?_cons_zero, Option.getD_some]; (try rfl))); (try simp only [Act.put, List.setIfInBounds_toArray, List.set_cons_zero, List.set_cons_succ]))
  (refine TG.callN (f := ?f93) (args := ?r93) (fun v => v = .bool true) gK (by simp only [List.getElem?_toArray, List.getElem?_cons_succ, List.getElem?_cons_zero]; rfl) rfl ?hw93 (fun w1 => ?hy93) (fun T wq kq ltq hSq ub => ?hsp93) ?hn93; (case hw93 => rfl); (case hy93 => (go_simp; (first | with_reducible rfl | (constructor <;> with_reducible rfl)))); (case hsp93 => (have kp113 := ub.box (p := p113) (by first | exact Bx.set_same _ _ _ | (simp only [Bx.set_same]; rfl)) (by first | decide | exact List.mem_singleton.2 rfl | simp); dsimp only [Value.cells] at kp113; have nUp113 := (ub p113 _ (by first | exact Bx.set_same _ _ _ | (simp only [Bx.set_same]; rfl)) (by first | decide | exact List.mem_singleton.2 rfl | simp)).1; exact sameR 2 rfl kq.2 (row2 2 5 rfl rfl kp113) (by decide))); rintro v93 hC; obtain rfl := hC; (try simp only [Act.put, List.setIfInBounds_toArray, List.set_cons_zero, List.set_cons_succ]))
  (refine TG.v0 (v := ?v94) (by simp only [List.getElem?_toArray, List.getElem?_cons_succ, List.getElem?_cons_zero]; rfl) rfl ?hw94 (fun w1 => ?hy94) ?hn94; (case hw94 => rfl); (case hy94 => (go_simp; (try with_reducible rfl))); (try simp only [Act.put, List.setIfInBounds_toArray, List.set_cons_zero, List.set_cons_succ]))
  (refine TG.v0 (v := ?v95) (by simp only [List.getElem?_toArray, List.getElem?_cons_succ, List.getElem?_cons_zero]; rfl) rfl ?hw95 (fun w1 => ?hy95) ?hn95; (case hw95 => rfl); (case hy95 => (go_simp; (try with_reducible rfl))); (try simp only [Act.put, List.setIfInBounds_toArray, List.set_cons_zero, List.set_cons_succ]))
  (refine TG.v0 (v := ?v96) (by simp only [List.getElem?_toArray, List.getElem?_cons_succ, List.getElem?_cons_zero]; rfl) rfl ?hw96 (fun w1 => ?hy96) ?hn96; (case hw96 => rfl); (case hy96 => (go_simp; (try with_reducible rfl))); (try simp only [Act.put, List.setIfInBounds_toArray, List.set_cons_zero, List.set_cons_succ]))
  (refine TG.v0 (v := ?v97) (by simp only [List.getElem?_toArray, List.getElem?_cons_succ, List.getElem?_cons_zero]; rfl) rfl ?hw97 (fun w1 => ?hy97) ?hn97; (case hw97 => rfl); (case hy97 => (go_simp; (try with_reducible rfl))); (try simp only [Act.put, List.setIfInBounds_toArray, List.set_cons_zero, List.set_cons_succ]))
  (refine TG.v0 (v := ?v98) (by simp only [List.getElem?_toArray, List.getElem?_cons_succ, List.getElem?_cons_zero]; rfl) rfl ?hw98 (fun w1 => ?hy98) ?hn98; (case hw98 => rfl); (case hy98 => (go_simp; (try with_reducible rfl))); (try simp only [Act.put, List.setIfInBounds_toArray, List.set_cons_zero, List.set_cons_succ]))
  (refine TG.v0 (v := ?v99) (by simp only [List.getElem?_toArray, List.getElem?_cons_succ, List.getElem?_cons_zero]; rfl) rfl ?hw99 (fun w1 => ?hy99) ?hn99; (case hw99 => rfl); (case hy99 => (go_simp; (try with_reducible rfl))); (try simp only [Act.put, List.setIfInBounds_toArray, List.set_cons_zero, List.set_cons_succ]))
  (refine TG.v0 (v := ?v100) (by simp only [List.getElem?_toArray, List.getElem?_cons_succ, List.getElem?_cons_zero]; rfl) rfl ?hw100 (fun w1 => ?hy100) ?hn100; (case hw100 => rfl); (case hy100 => (go_simp; (try with_reducible rfl))); (try simp only [Act.put, List.setIfInBounds_toArray, List.set_cons_zero, List.set_cons_succ]))
  (refine TG.v0 (v := ?v101) (by simp only [List.getElem?_toArray, List.getElem?_cons_succ, List.getElem?_cons_zero]; rfl) rfl ?hw101 (fun w1 => ?hy101) ?hn101; (case hw101 => rfl); (case hy101 => (go_simp; (try with_reducible rfl))); (try simp only [Act.put, List.setIfInBounds_toArray, List.set_cons_zero, List.set_cons_succ]))
  (refine TG.v0 (v := ?v102) (by simp only [List.getElem?_toArray, List.getElem?_cons_succ, List.getElem?_cons_zero]; rfl) rfl ?hw102 (fun w1 => ?hy102) ?hn102; (case hw102 => rfl); (case hy102 => (go_simp; (try with_reducible rfl))); (try simp only [Act.put, List.setIfInBounds_toArray, List.set_cons_zero, List.set_cons_succ]))
  refine TG.nil (fun w9 ⟨TR, hr⟩ => ?_)
  have kp113 := hr.box p113 _ (by first | exact Bx.set_same _ _ _ | (simp only [Bx.set_same]; rfl)); dsimp only [Value.cells] at kp113; obtain ⟨gp113, nTp113, kp113⟩ := kp113
  clear gK
  have m9 : Mod (fun _ => False) w w9 := HW.out.2.then hr.mod (fun i hi h => by have := HW.out.1 i h; omega)
  clear hr
  go_wp2_with fail
  go_ret
  exact ⟨rfl, m9⟩
end Go.Proofs.Ytffcnnogkpdinaa
