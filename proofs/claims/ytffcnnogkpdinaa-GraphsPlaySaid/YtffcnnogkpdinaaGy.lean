/- Graphs, Put: one key (a round of the loop over the keys). -/
import Derived.Test.YtffcnnogkpdinaaGx
namespace Go.Proofs.Ytffcnnogkpdinaa
open Go.RowKit Go.Shelf
open Go.ChangeMaps (setBlock)
set_option linter.unusedSimpArgs false
set_option linter.unusedVariables false
attribute [local go_sem ↓] wlKey wlRole ldKey ldRole stKey stRole
attribute [local go_sem] zKey_size zRole_size kc_ext rc_size rc_key rc_all rc_s rc_w rc_s' rc_w' rc_one one_int one_bool one_ptr one_slice one_map kc_one kc_one0 cell_blk frozen_blk Value.cells eqMap neMap
/-- The frame. -/
structure Fr (g b7 p10 r : Nat) (id : Int64) (a : Act) : Prop where
  n : a.tmps.size = 157
  h0 : a.tmps.getD 0 undef = ptrV g
  h1 : a.tmps.getD 1 undef = .int .i64 id.toInt
  h7 : a.tmps.getD 7 undef = ptrV b7
  h10 : a.tmps.getD 10 undef = ptrV p10
  h71 : a.tmps.getD 71 undef = ptrV r
/-- Between two keys. -/
structure KI (T : Nat → Prop) (n : Nat) (w0 : World) (g nb sb q : Nat) (L : List An) (x : An) (kb : Nat) (N : List (Int64 × Nat)) (nd0 : Nat → Nr) (b7 p10 r : Nat) (es : Array MapEntry) (cl : Nat) (D rem : List (Key × Bool)) (S : List (Key × Nat)) (sp : Nat → Sr) (tag : Tag) (nd : Nat → Nr) (ds : List Deferred) (W : World) : Prop where
  ei : EI g nb sb q L x.a x.id kb x.ks N S nd0 sp b7 p10 (srcs L D) tag nd W
  spp : SpP L x D S sp
  it : IterAt W r kb kv bv es cl rem
  km : W.heap[kb]? = some (.map es cl)
  pm : (D ++ rem).Perm x.ks
  mks : Marks n ds W
  fr : Mod T w0 W
  ow : ∀ i, tag i ≠ none → T i ∨ n ≤ i
  nr : tag r = none
/-- What is fixed. -/
structure KF (T : Nat → Prop) (n : Nat) (w0 : World) (L : List An) (x : An) (kb : Nat) (nd0 : Nat → Nr) (b7 p10 r : Nat) (es : Array MapEntry) (cl : Nat) : Prop where
  pf : PFix L x.a nd0
  M : MapIs kv bv es cl x.ks
  hn : w0.heap.size = n
  h7 : n ≤ b7
  hl : n ≤ p10
  hr : n ≤ r
  hkn : n ≤ kb
  kl : x.ks.length ≤ 800
  Ll : L.length ≤ 900
set_option maxRecDepth 100000 in
set_option maxHeartbeats 4000000 in
theorem key_end {T : Nat → Prop} {n : Nat} {w0 : World} {g nb sb q : Nat} {L : List An} {x : An} {kb : Nat} {N : List (Int64 × Nat)} {nd0 : Nat → Nr} {b7 p10 r : Nat} {es : Array MapEntry} {cl : Nat} {D : List (Key × Bool)} {S : List (Key × Nat)} {sp : Nat → Sr} {tag : Tag} {nd : Nat → Nr} {ds : List Deferred} {W : World}
    (F : KF T n w0 L x kb nd0 b7 p10 r es cl) (H : KI T n w0 g nb sb q L x kb N nd0 b7 p10 r es cl D [] S sp tag nd ds W) (u : Nat → Value) {Q : Exit → Act → World → Prop}
    (hexit : ∀ a', Fr g b7 p10 r x.id a' → a'.defers = ds → Q (.exit 2) a' W) : keysBody.wp Try.prog Q ⟨(List.toArray (ptrV g :: .int .i64 x.id.toInt :: u 2 :: u 3 :: u 4 :: u 5 :: u 6 :: ptrV b7 :: u 8 :: u 9 :: ptrV p10 :: u 11 :: u 12 :: u 13 :: u 14 :: u 15 :: u 16 :: u 17 :: u 18 :: u 19 :: u 20 :: u 21 :: u 22 :: u 23 :: u 24 :: u 25 :: u 26 :: u 27 :: u 28 :: u 29 :: u 30 :: u 31 :: u 32 :: u 33 :: u 34 :: u 35 :: u 36 :: u 37 :: u 38 :: u 39 :: u 40 :: u 41 :: u 42 :: u 43 :: u 44 :: u 45 :: u 46 :: u 47 :: u 48 :: u 49 :: u 50 :: u 51 :: u 52 :: u 53 :: u 54 :: u 55 :: u 56 :: u 57 :: u 58 :: u 59 :: u 60 :: u 61 :: u 62 :: u 63 :: u 64 :: u 65 :: u 66 :: u 67 :: u 68 :: u 69 :: u 70 :: ptrV r :: u 72 :: u 73 :: u 74 :: u 75 :: u 76 :: u 77 :: u 78 :: u 79 :: u 80 :: u 81 :: u 82 :: u 83 :: u 84 :: u 85 :: u 86 :: u 87 :: u 88 :: u 89 :: u 90 :: u 91 :: u 92 :: u 93 :: u 94 :: u 95 :: u 96 :: u 97 :: u 98 :: u 99 :: u 100 :: u 101 :: u 102 :: u 103 :: u 104 :: u 105 :: u 106 :: u 107 :: u 108 :: u 109 :: u 110 :: u 111 :: u 112 :: u 113 :: u 114 :: u 115 :: u 116 :: u 117 :: u 118 :: u 119 :: u 120 :: u 121 :: u 122 :: u 123 :: u 124 :: u 125 :: u 126 :: u 127 :: u 128 :: u 129 :: u 130 :: u 131 :: u 132 :: u 133 :: u 134 :: u 135 :: u 136 :: u 137 :: u 138 :: u 139 :: u 140 :: u 141 :: u 142 :: u 143 :: u 144 :: u 145 :: u 146 :: u 147 :: u 148 :: u 149 :: u 150 :: u 151 :: u 152 :: u 153 :: u 154 :: u 155 :: u 156 :: [])), ds⟩ W := by
  have hit := H.it
  have km := H.km
  rcases hit.next (P := Try.prog) F.M km 0 with ⟨_, hrun⟩ | ⟨p, rem', w3, it, hperm, hrun, kr3, m3, kb3, hent⟩
  · have HE := Lib.hid hexit
    clear H F hit hexit
    conv => arg 2; whnf
    go_wp2_with fail
    exact HE.out _ ⟨rfl, rfl, rfl, rfl, rfl, rfl⟩ rfl
  · cases hperm.length_eq
/-- In the middle of a key: its spot is there. -/
structure KM (T : Nat → Prop) (n : Nat) (w0 : World) (g nb sb q : Nat) (L : List An) (x : An) (kb : Nat) (N : List (Int64 × Nat)) (nd0 : Nat → Nr) (b7 p10 r : Nat) (es : Array MapEntry) (cl : Nat) (D : List (Key × Bool)) (nd : Nat → Nr) (ds : List Deferred) (it : Obj) (k : Key) (s : Nat) (S : List (Key × Nat)) (sp : Nat → Sr) (tag : Tag) (W : World) : Prop where
  ei : EI g nb sb q L x.a x.id kb x.ks N S nd0 sp b7 p10 (srcs L D) tag nd W
  spp : SpP L x D S sp
  kr : W.heap[r]? = some it
  km : W.heap[kb]? = some (.map es cl)
  mks : Marks n ds W
  fr : Mod T w0 W
  ow : ∀ i, tag i ≠ none → T i ∨ n ≤ i
  nr : tag r = none
  hk : lkp k S = some s
theorem keeps0 {M : Nat → Prop} {W W' : World} (hm : Mod M W W') (hM : ∀ i, ¬ M i) : KeepsOthers W W' := keeps_of hm (fun i h => absurd h (hM i))
theorem perm_new {D rem rem' ks : List (Key × Bool)} {p : Key × Bool} (h : (D ++ rem).Perm ks) (hr : rem.Perm (p :: rem')) : ((D ++ [p]) ++ rem').Perm ks := by
  refine .trans ?_ h
  rw [List.append_assoc]
  exact (hr.symm).append_left D
theorem perm_not {D rem : List (Key × Bool)} {ks : List (Key × Bool)} {p : Key × Bool} (h : ((D ++ [p]) ++ rem).Perm ks) (hn : (ks.map Prod.fst).Nodup) : ∀ b, (p.1, b) ∉ D := by
  intro b hb
  have h1 := ((h.map Prod.fst).nodup_iff).2 hn
  rw [List.map_append, List.map_append, List.append_assoc, List.nodup_append] at h1
  exact h1.2.2 p.1 (List.mem_map.2 ⟨_, hb, rfl⟩) p.1 (by simp) rfl
theorem eqSpot (w : World) (o : Option Nat) : (binOp .eql 67 (opV o) (.pointer none)).run Try.prog w = .ok (.bool o.isNone) w := by
  cases o <;> (go_simp; try rfl)
set_option maxRecDepth 100000 in
set_option maxHeartbeats 8000000 in
theorem key_c {T : Nat → Prop} {n : Nat} {w0 : World} {g nb sb q : Nat} {L : List An} {x : An} {kb : Nat} {N : List (Int64 × Nat)} {nd0 : Nat → Nr} {b7 p10 r : Nat} {es : Array MapEntry} {cl : Nat} {D rem : List (Key × Bool)} {S : List (Key × Nat)} {sp : Nat → Sr} {tag : Tag} {nd : Nat → Nr} {ds : List Deferred} {W : World}
    (F : KF T n w0 L x kb nd0 b7 p10 r es cl) (H : KI T n w0 g nb sb q L x kb N nd0 b7 p10 r es cl D rem S sp tag nd ds W) (hq : q ≤ 1000000) (hrem : rem ≠ []) (u : Nat → Value) {Q : Exit → Act → World → Prop} (hP : ∀ c a w, ¬ Q (.panic c) a w) (hL : ¬ LetsOut Q)
    (hnext : ∀ D' rem' S' sp' tag' nd' a' W', Fr g b7 p10 r x.id a' → KI T n w0 g nb sb q L x kb N nd0 b7 p10 r es cl D' rem' S' sp' tag' nd' a'.defers W' → rem'.length < rem.length → Q .normal a' W') : keysBody.wp Try.prog Q ⟨(List.toArray (ptrV g :: .int .i64 x.id.toInt :: u 2 :: u 3 :: u 4 :: u 5 :: u 6 :: ptrV b7 :: u 8 :: u 9 :: ptrV p10 :: u 11 :: u 12 :: u 13 :: u 14 :: u 15 :: u 16 :: u 17 :: u 18 :: u 19 :: u 20 :: u 21 :: u 22 :: u 23 :: u 24 :: u 25 :: u 26 :: u 27 :: u 28 :: u 29 :: u 30 :: u 31 :: u 32 :: u 33 :: u 34 :: u 35 :: u 36 :: u 37 :: u 38 :: u 39 :: u 40 :: u 41 :: u 42 :: u 43 :: u 44 :: u 45 :: u 46 :: u 47 :: u 48 :: u 49 :: u 50 :: u 51 :: u 52 :: u 53 :: u 54 :: u 55 :: u 56 :: u 57 :: u 58 :: u 59 :: u 60 :: u 61 :: u 62 :: u 63 :: u 64 :: u 65 :: u 66 :: u 67 :: u 68 :: u 69 :: u 70 :: ptrV r :: u 72 :: u 73 :: u 74 :: u 75 :: u 76 :: u 77 :: u 78 :: u 79 :: u 80 :: u 81 :: u 82 :: u 83 :: u 84 :: u 85 :: u 86 :: u 87 :: u 88 :: u 89 :: u 90 :: u 91 :: u 92 :: u 93 :: u 94 :: u 95 :: u 96 :: u 97 :: u 98 :: u 99 :: u 100 :: u 101 :: u 102 :: u 103 :: u 104 :: u 105 :: u 106 :: u 107 :: u 108 :: u 109 :: u 110 :: u 111 :: u 112 :: u 113 :: u 114 :: u 115 :: u 116 :: u 117 :: u 118 :: u 119 :: u 120 :: u 121 :: u 122 :: u 123 :: u 124 :: u 125 :: u 126 :: u 127 :: u 128 :: u 129 :: u 130 :: u 131 :: u 132 :: u 133 :: u 134 :: u 135 :: u 136 :: u 137 :: u 138 :: u 139 :: u 140 :: u 141 :: u 142 :: u 143 :: u 144 :: u 145 :: u 146 :: u 147 :: u 148 :: u 149 :: u 150 :: u 151 :: u 152 :: u 153 :: u 154 :: u 155 :: u 156 :: [])), ds⟩ W := by
  have hit := H.it
  have km := H.km
  rcases hit.next (P := Try.prog) F.M km 0 with ⟨e, hrun⟩ | ⟨p, rem', w3, it, hperm, hrun, kr3, m3, kb3, hent⟩
  · exact absurd e hrem
  obtain ⟨k, h⟩ := p
  obtain ⟨hv, hv1, hv2⟩ : ∃ hv : Int, bv h = .int .i64 hv ∧ (hv == 1) = h := ⟨if h then 1 else 0, rfl, by cases h <;> rfl⟩
  dsimp only at hrun hent
  rw [hv1] at hrun
  simp only [hv1] at hent
  have kr0 : ∃ s1 s2 s3, W.heap[r]? = some (.mapIter (some kb) s1 s2 s3) := by
    obtain ⟨s1, s2, s3, h1, _⟩ := hit
    exact ⟨s1, s2, s3, h1⟩
  have nr7 : b7 ≠ r := by
    obtain ⟨s1, s2, s3, h1⟩ := kr0
    exact ne_of_obj H.ei.k7 h1 (by simp)
  have nrl : p10 ≠ r := by
    obtain ⟨s1, s2, s3, h1⟩ := kr0
    exact ne_of_obj H.ei.kl h1 (by simp)
  have hEI := H.ei.mod m3 (fun i hi e => hi (by rw [e]; exact H.nr)) nr7 nrl
  have kg := hEI.mem.c
  have hfr : Mod T w0 w3 := H.fr.then m3 (fun i hi e => by have := F.hr; have := F.hn; omega)
  have hmk : Marks n ds w3 := H.mks.mod m3 (fun i hi e => by
    obtain ⟨s1, s2, s3, h1⟩ := kr0
    rw [e, h1] at hi
    cases hi)
  obtain ⟨es2, cl2, ksb, hMS⟩ := hEI.mem.ks
  have hpm := perm_new H.pm hperm
  have hlen : rem'.length < rem.length := by rw [hperm.length_eq]; simp
  obtain ⟨o, ho⟩ : ∃ o, lkp k S = o := ⟨_, rfl⟩
  have hlk : ∀ wq, Mod (fun _ => False) w3 wq → (Instr.lookup 53 (.map (some sb)) (.agg (kc k)) false).run Try.prog wq = .ok (opV o) wq := fun wq hq => by
    have h1 := hMS.lookup keyT Try.underlying53 (z := .pointer none) (fun w => by kernel_rfl) wq (hq.at0 ksb) k false
    rw [ho] at h1
    refine h1.trans ?_
    cases o <;> rfl
  have HL := Lib.hid hlk
  have HEn := Lib.hid hent
  have HEI := Lib.hid hEI
  have HN := Lib.hid hnext
  have HP := Lib.hid (And.intro hpm hlen)
  have HMS := Lib.hid hMS
  have HFR := Lib.hid (And.intro hfr hmk)
  have HO := Lib.hid ho
  have HH := Lib.hid H
  have HF := Lib.hid F
  have hE2 : ∀ wq, Mod (fun _ => False) w3 wq → (Instr.entry (.pointer (some ⟨r, 0, none⟩))).run Try.prog wq = .ok (.tuple #[.agg (kc k), .int .i64 hv]) wq := fun wq hm => (hent wq (hm.at0 kr3) (hm.at0 kb3)).1
  have HE2 := Lib.hid hE2
  have hrun2 : (Instr.next (.pointer (some ⟨r, 0, none⟩)) false 0).run Try.prog W = .ok (.tuple #[.bool true, .agg (kc k), .int .i64 hv]) w3 := hrun
  clear hlk hent hEI hnext hpm hlen hMS hfr hmk ho H F hE2 hrun hit km kr0 hperm hrem hv1
  conv => arg 2; whnf
  go_upto_region 17 with fail
  have hent2 := HE2.out
  have Lkg := lt_size kg
  have Lkr3 := lt_size kr3
  have Lkb3 := lt_size kb3
  have Lksb := lt_size ksb
  refine wp_pass0 (C := fun _ _ _ => False) (κ := fun i => [1, 0, 0, 3, 4, 0].getD i 0) [0, 1, 2, 3, 4, 5] (by kernel_rfl) (by kernel_rfl) (fun _ _ d _ _ h => by cases d <;> first | exact h | exact absurd h (hP _ _ _)) ?_
  (refine TD.entry (v := ?v1) (p := ?p1) (Mod.refl _ _) (by simp only [List.getElem?_toArray, List.getElem?_cons_succ, List.getElem?_cons_zero]; rfl) rfl ?hw1 rfl ?hx1 (fun wq hSq => ?hy1) ?hn1; (case hw1 => rfl); (case hx1 => (simp only [Act.eval, Array.getD_eq_getD_getElem?, List.getElem?_toArray, List.getElem?_cons_succ, List.getElem?_cons_zero, Option.getD_some]; (try rfl))); (case hy1 => (rw [hent2 wq hSq]; (try with_reducible rfl))); (try simp only [Act.put, List.setIfInBounds_toArray, List.set_cons_zero, List.set_cons_succ]))
  (refine TD.val0 (v := ?v2) (by simp only [List.getElem?_toArray, List.getElem?_cons_succ, List.getElem?_cons_zero]; rfl) rfl ?hw2 (fun w1 => ?hy2) ?hn2; (case hw2 => rfl); (case hy2 => (go_simp; (try with_reducible rfl))); (try simp only [Act.put, List.setIfInBounds_toArray, List.set_cons_zero, List.set_cons_succ]))
  (refine TD.val0 (v := ?v3) (by simp only [List.getElem?_toArray, List.getElem?_cons_succ, List.getElem?_cons_zero]; rfl) rfl ?hw3 (fun w1 => ?hy3) ?hn3; (case hw3 => rfl); (case hy3 => (go_simp; (try with_reducible rfl))); (try simp only [Act.put, List.setIfInBounds_toArray, List.set_cons_zero, List.set_cons_succ]))
  (refine TD.allocB (by simp only [List.getElem?_toArray, List.getElem?_cons_succ, List.getElem?_cons_zero]; rfl) rfl ?hw4 rfl rfl alKey (fun p11 hp11 => ?hn4); (case hw4 => rfl); (try simp only [Act.put, List.setIfInBounds_toArray, List.set_cons_zero, List.set_cons_succ]))
  (refine TD.storeB (d := ?d5) (T := ?T5) (y := ?y5) (p := ?p5) (b := ?b5) (v := ?v5) (by simp only [List.getElem?_toArray, List.getElem?_cons_succ, List.getElem?_cons_zero]; rfl) rfl ?hw5 ?hd5 ?hop5 ?hev5 ?hx5 ?hb5 ?htag5 (fun w1 hb1 => ?hy5) ?hn5; (case hw5 => rfl); (case hd5 => rfl); (case hop5 => rfl); (case hev5 => (simp only [Act.eval, Array.getD_eq_getD_getElem?, List.getElem?_toArray, List.getElem?_cons_succ, List.getElem?_cons_zero, Option.getD_some]; (try rfl))); (case hx5 => (simp only [Act.eval, Array.getD_eq_getD_getElem?, List.getElem?_toArray, List.getElem?_cons_succ, List.getElem?_cons_zero, Option.getD_some]; (try rfl))); (case hb5 => first | exact Bx.set_same _ _ _ | (simp only [Bx.set_same]; rfl)); (case hy5 => (go_simp; (try with_reducible rfl))); (try simp only [Act.put, List.setIfInBounds_toArray, List.set_cons_zero, List.set_cons_succ]))
  (refine TD.val0 (v := ?v6) (by simp only [List.getElem?_toArray, List.getElem?_cons_succ, List.getElem?_cons_zero]; rfl) rfl ?hw6 (fun w1 => ?hy6) ?hn6; (case hw6 => rfl); (case hy6 => (go_simp; (try with_reducible rfl))); (try simp only [Act.put, List.setIfInBounds_toArray, List.set_cons_zero, List.set_cons_succ]))
  refine TD.nil (fun w4 hr => ?_)
  have kg := hr.mod.at kg (fun h => h)
  have kr3 := hr.mod.at kr3 (fun h => h)
  have kb3 := hr.mod.at kb3 (fun h => h)
  have ksb := hr.mod.at ksb (fun h => h)
  have kp11 := hr.box p11 _ (by first | exact Bx.set_same _ _ _ | (simp only [Bx.set_same]; rfl)); dsimp only [Value.cells] at kp11; obtain ⟨gp11, kp11⟩ := kp11
  have m4 := hr.mod
  clear hr hent2
  go_upto_region 19 with fail
  have hlk : ∀ wq, Mod (fun _ => False) w4 wq → (Instr.lookup 53 (.map (some sb)) (.agg (kc k)) false).run Try.prog wq = .ok (opV o) wq := fun wq hq => HL.out wq (m4.then0 hq)
  have Lkg := lt_size kg
  have Lkr3 := lt_size kr3
  have Lkb3 := lt_size kb3
  have Lksb := lt_size ksb
  have Lkp11 := lt_size kp11
  refine wp_pass (C := fun _ _ _ => False) (κ := fun i => [0, 0, 0, 1, 1, 1, 0].getD i 0) [0, 1, 2, 3, 4, 5, 6] (by kernel_rfl) (by kernel_rfl) (fun _ _ d _ _ h => by cases d <;> first | exact h | exact absurd h (hP _ _ _)) ?_
  (refine TD.val0 (v := ?v7) (by simp only [List.getElem?_toArray, List.getElem?_cons_succ, List.getElem?_cons_zero]; rfl) rfl ?hw7 (fun w1 => ?hy7) ?hn7; (case hw7 => rfl); (case hy7 => (go_simp; (try with_reducible rfl))); (try simp only [Act.put, List.setIfInBounds_toArray, List.set_cons_zero, List.set_cons_succ]))
  (refine TD.val0 (v := ?v8) (by simp only [List.getElem?_toArray, List.getElem?_cons_succ, List.getElem?_cons_zero]; rfl) rfl ?hw8 (fun w1 => ?hy8) ?hn8; (case hw8 => rfl); (case hy8 => (go_simp; (try with_reducible rfl))); (try simp only [Act.put, List.setIfInBounds_toArray, List.set_cons_zero, List.set_cons_succ]))
  (refine TD.val0 (v := ?v9) (by simp only [List.getElem?_toArray, List.getElem?_cons_succ, List.getElem?_cons_zero]; rfl) rfl ?hw9 (fun w1 => ?hy9) ?hn9; (case hw9 => rfl); (case hy9 => (go_simp; (try with_reducible rfl))); (try simp only [Act.put, List.setIfInBounds_toArray, List.set_cons_zero, List.set_cons_succ]))
  (refine TD.load (v := ?v10) (p := ?p10) (Mod.refl _ _) (by simp only [List.getElem?_toArray, List.getElem?_cons_succ, List.getElem?_cons_zero]; rfl) rfl ?hw10 rfl ?hx10 (fun wq hSq => ?hy10) ?hn10; (case hw10 => rfl); (case hx10 => (simp only [Act.eval, Array.getD_eq_getD_getElem?, List.getElem?_toArray, List.getElem?_cons_succ, List.getElem?_cons_zero, Option.getD_some]; (try rfl))); (case hy10 => (have kgq := hSq.at kg (fun h => h); have kr3q := hSq.at kr3 (fun h => h); have kb3q := hSq.at kb3 (fun h => h); have ksbq := hSq.at ksb (fun h => h); have kp11q := hSq.at kp11 (fun h => h); go_simp; (try with_reducible rfl))); (try simp only [Act.put, List.setIfInBounds_toArray, List.set_cons_zero, List.set_cons_succ]))
  (refine TD.load (v := ?v11) (p := ?p11) (Mod.refl _ _) (by simp only [List.getElem?_toArray, List.getElem?_cons_succ, List.getElem?_cons_zero]; rfl) rfl ?hw11 rfl ?hx11 (fun wq hSq => ?hy11) ?hn11; (case hw11 => rfl); (case hx11 => (simp only [Act.eval, Array.getD_eq_getD_getElem?, List.getElem?_toArray, List.getElem?_cons_succ, List.getElem?_cons_zero, Option.getD_some]; (try rfl))); (case hy11 => (have kgq := hSq.at kg (fun h => h); have kr3q := hSq.at kr3 (fun h => h); have kb3q := hSq.at kb3 (fun h => h); have ksbq := hSq.at ksb (fun h => h); have kp11q := hSq.at kp11 (fun h => h); go_simp; (try with_reducible rfl))); (try simp only [Act.put, List.setIfInBounds_toArray, List.set_cons_zero, List.set_cons_succ]))
  (refine TD.lookup (v := ?v12) (p := ?p12) (q := ?q12) (Mod.refl _ _) (by simp only [List.getElem?_toArray, List.getElem?_cons_succ, List.getElem?_cons_zero]; rfl) rfl ?hw12 rfl ?hx12 ?hz12 (fun wq hSq => ?hy12) ?hn12; (case hw12 => rfl); (case hx12 => (simp only [Act.eval, Array.getD_eq_getD_getElem?, List.getElem?_toArray, List.getElem?_cons_succ, List.getElem?_cons_zero, Option.getD_some]; (try rfl))); (case hz12 => (simp only [Act.eval, Array.getD_eq_getD_getElem?, List.getElem?_toArray, List.getElem?_cons_succ, List.getElem?_cons_zero, Option.getD_some]; (try rfl))); (case hy12 => (rw [hlk wq hSq]; (try with_reducible rfl))); (try simp only [Act.put, List.setIfInBounds_toArray, List.set_cons_zero, List.set_cons_succ]))
  (refine TD.val0 (v := ?v13) (by simp only [List.getElem?_toArray, List.getElem?_cons_succ, List.getElem?_cons_zero]; rfl) rfl ?hw13 (fun w1 => ?hy13) ?hn13; (case hw13 => rfl); (case hy13 => (go_simp; (try with_reducible rfl))); (try simp only [Act.put, List.setIfInBounds_toArray, List.set_cons_zero, List.set_cons_succ]))
  refine TD.nil (fun w5 hr => ?_)
  have kg := hr.mod.at kg (fun h => h)
  have kr3 := hr.mod.at kr3 (fun h => h)
  have kb3 := hr.mod.at kb3 (fun h => h)
  have ksb := hr.mod.at ksb (fun h => h)
  have kp11 := hr.mod.at kp11 (fun h => h)
  have m5 := m4.then0 hr.mod
  have HM5 := Lib.hid m5
  have heq := eqSpot w5 o
  clear hr hlk m4 m5
  go_upto_if 86 with fail
  have HE := Lib.hid heq
  clear heq
  go_cut [14] from 87 to 94 (fun s14 wx => ∃ s S' sp' tag', s14 = ptrV s ∧ Hid (KM T n w0 g nb sb q L x kb N nd0 b7 p10 r es cl D nd ds it k s S' sp' tag' wx))
  case first =>
    cases o with
    | some s =>
      go_wp2_with fail
      go_meet
      exact ⟨s, S, sp, tag, rfl, Lib.hid ⟨HEI.out.mod0 HM5.out, HH.out.spp, kr3, kb3, HFR.out.2.keeps (keeps0 HM5.out (fun _ h => h)), HFR.out.1.then0 HM5.out, HH.out.ow, HH.out.nr, HO.out⟩⟩
    | none =>
      go_upto_region 22 with fail
      have m6 : Mod (fun _ => False) w5 (w5.alloc (.cells #[.pointer none, .slice none 0 0] 69)) := (Mod.refl _ _).alloc _
      have ksp := heap_alloc_new w5 (.cells #[.pointer none, .slice none 0 0] 69)
      generalize w5.alloc (.cells #[.pointer none, .slice none 0 0] 69) = w6 at *
      have hEI5 := HEI.out.mod0 HM5.out
      have Lr5 := lt_size kr3
      have HK5 := Lib.hid ksb
      have nsb : ∀ {i o}, w5.heap[i]? = some (.cells o (69) (0, 0)) → i ≠ sb := fun h => ne_of_obj h ksb (by simp)
      have hss : w5.heap.size ≠ sb := by have := lt_size ksb; omega
      have hgs : g ≠ sb := ne_of_obj kg ksb (by simp)
      have hps : p11 ≠ sb := ne_of_obj kp11 ksb (by simp)
      have hrs : r ≠ sb := fun e => by
        have h1 := HEI.out.mem.tsb
        rw [← e, HH.out.nr] at h1
        cases h1
      have hks : kb ≠ sb := fun e => by
        have h1 := (HEI.out.mem.nodes x.a (by simp)).tk
        rw [HEI.out.ndp.new] at h1
        dsimp only at h1
        rw [e, HEI.out.mem.tsb] at h1
        cases h1
      have H5 := Lib.hid (And.intro hEI5 (m6.at0 ksb))
      have kg6 := m6.at0 kg
      have kp6 := m6.at0 kp11
      have kr6 := m6.at0 kr3
      have kb6 := m6.at0 kb3
      have ks6 := m6.at0 ksb
      clear hEI5 nsb kg kp11 kr3 kb3 ksb
      generalize hs5 : w5.heap.size = s at *
      have HS5 := Lib.hid hs5
      have HM6 := Lib.hid m6
      clear hs5 m6
      have Lkg6 := lt_size kg6
      have Lkp6 := lt_size kp6
      have Lksp := lt_size ksp
      have Lkr6 := lt_size kr6
      have Lkb6 := lt_size kb6
      have Lks6 := lt_size ks6
      refine wp_pass (C := fun _ _ _ => False) (κ := fun i => [0, 0, 0, 1, 1, 0, 5].getD i 0) [0, 1, 2, 3, 4, 5, 6] (by kernel_rfl) (by kernel_rfl) (fun _ _ d _ _ h => by cases d <;> first | exact h | exact absurd h (hP _ _ _)) ?_
      (refine TD.val0 (v := ?v14) (by simp only [List.getElem?_toArray, List.getElem?_cons_succ, List.getElem?_cons_zero]; rfl) rfl ?hw14 (fun w1 => ?hy14) ?hn14; (case hw14 => rfl); (case hy14 => (go_simp; (try with_reducible rfl))); (try simp only [Act.put, List.setIfInBounds_toArray, List.set_cons_zero, List.set_cons_succ]))
      (refine TD.val0 (v := ?v15) (by simp only [List.getElem?_toArray, List.getElem?_cons_succ, List.getElem?_cons_zero]; rfl) rfl ?hw15 (fun w1 => ?hy15) ?hn15; (case hw15 => rfl); (case hy15 => (go_simp; (try with_reducible rfl))); (try simp only [Act.put, List.setIfInBounds_toArray, List.set_cons_zero, List.set_cons_succ]))
      (refine TD.val0 (v := ?v16) (by simp only [List.getElem?_toArray, List.getElem?_cons_succ, List.getElem?_cons_zero]; rfl) rfl ?hw16 (fun w1 => ?hy16) ?hn16; (case hw16 => rfl); (case hy16 => (go_simp; (try with_reducible rfl))); (try simp only [Act.put, List.setIfInBounds_toArray, List.set_cons_zero, List.set_cons_succ]))
      (refine TD.load (v := ?v17) (p := ?p17) (Mod.refl _ _) (by simp only [List.getElem?_toArray, List.getElem?_cons_succ, List.getElem?_cons_zero]; rfl) rfl ?hw17 rfl ?hx17 (fun wq hSq => ?hy17) ?hn17; (case hw17 => rfl); (case hx17 => (simp only [Act.eval, Array.getD_eq_getD_getElem?, List.getElem?_toArray, List.getElem?_cons_succ, List.getElem?_cons_zero, Option.getD_some]; (try rfl))); (case hy17 => (have kg6q := hSq.at kg6 (fun h => h); have kp6q := hSq.at kp6 (fun h => h); have kspq := hSq.at ksp (fun h => h); have kr6q := hSq.at kr6 (fun h => h); have kb6q := hSq.at kb6 (fun h => h); have ks6q := hSq.at ks6 (fun h => h); go_simp; (try with_reducible rfl))); (try simp only [Act.put, List.setIfInBounds_toArray, List.set_cons_zero, List.set_cons_succ]))
      (refine TD.load (v := ?v18) (p := ?p18) (Mod.refl _ _) (by simp only [List.getElem?_toArray, List.getElem?_cons_succ, List.getElem?_cons_zero]; rfl) rfl ?hw18 rfl ?hx18 (fun wq hSq => ?hy18) ?hn18; (case hw18 => rfl); (case hx18 => (simp only [Act.eval, Array.getD_eq_getD_getElem?, List.getElem?_toArray, List.getElem?_cons_succ, List.getElem?_cons_zero, Option.getD_some]; (try rfl))); (case hy18 => (have kg6q := hSq.at kg6 (fun h => h); have kp6q := hSq.at kp6 (fun h => h); have kspq := hSq.at ksp (fun h => h); have kr6q := hSq.at kr6 (fun h => h); have kb6q := hSq.at kb6 (fun h => h); have ks6q := hSq.at ks6 (fun h => h); go_simp; (try with_reducible rfl))); (try simp only [Act.put, List.setIfInBounds_toArray, List.set_cons_zero, List.set_cons_succ]))
      (refine TD.val0 (v := ?v19) (by simp only [List.getElem?_toArray, List.getElem?_cons_succ, List.getElem?_cons_zero]; rfl) rfl ?hw19 (fun w1 => ?hy19) ?hn19; (case hw19 => rfl); (case hy19 => (go_simp; (try with_reducible rfl))); (try simp only [Act.put, List.setIfInBounds_toArray, List.set_cons_zero, List.set_cons_succ]))
      refine TD.eff (by simp only [List.getElem?_toArray, List.getElem?_cons_succ, List.getElem?_cons_zero]; rfl) rfl (fun wE hr => ?_)
      have kg6 := hr.mod.at0 kg6
      have kp6 := hr.mod.at0 kp6
      have ksp := hr.mod.at0 ksp
      have kr6 := hr.mod.at0 kr6
      have kb6 := hr.mod.at0 kb6
      have ks6 := hr.mod.at0 ks6
      have mE := hr.mod
      obtain ⟨es20, cl20, hrun20, Mks6⟩ := HMS.out.update keyT Try.underlying53 wE ks6 k s
      (refine eff_update (X := ?X20) (Y := ?Y20) (Z := ?Z20) (w' := ?w20) (by simp only [List.getElem?_toArray, List.getElem?_cons_succ, List.getElem?_cons_zero]; rfl) ?hw20 rfl ?hx20 ?hz20 ?hv20 ?hy20 ?hn20; (case hw20 => rfl); (case hx20 => (simp only [Act.eval, Array.getD_eq_getD_getElem?, List.getElem?_toArray, List.getElem?_cons_succ, List.getElem?_cons_zero, Option.getD_some]; (try rfl))); (case hz20 => (simp only [Act.eval, Array.getD_eq_getD_getElem?, List.getElem?_toArray, List.getElem?_cons_succ, List.getElem?_cons_zero, Option.getD_some]; (try rfl))); (case hv20 => (simp only [Act.eval, Array.getD_eq_getD_getElem?, List.getElem?_toArray, List.getElem?_cons_succ, List.getElem?_cons_zero, Option.getD_some]; (try rfl))); (case hy20 => exact hrun20))
      (first | refine TE.nil_set ks6 (fun w7 ks6 mS => ?_) | refine TE.nil_setCell ks6 (fun w7 ks6 mS => ?_))
      (try simp only [Array.setIfInBounds, List.setIfInBounds_toArray, List.set_cons_zero, List.set_cons_succ] at ks6)
      have kg6 := mS.at_ne kg6 (by omega)
      have kp6 := mS.at_ne kp6 (by omega)
      have ksp := mS.at_ne ksp (by omega)
      have kr6 := mS.at_ne kr6 (by omega)
      have kb6 := mS.at_ne kb6 (by omega)
      have m7 : Mod (fun i => i = sb) w5 w7 := ((HM6.out.then0 mE).mono (fun _ _ h => h.elim)).then mS (fun _ _ h => h)
      have hEI7 := H5.out.1.fresh (s := s) (k := k) m7 (fun _ h => h) (by rw [HS5.out]; exact Nat.le_refl _) HO.out ksp ⟨_, _, ks6, Mks6⟩
      have hn7 : n ≤ s := by
        have h1 := HFR.out.1.size
        have h2 := HM5.out.size
        have h3 := HF.out.hn
        have h4 := HS5.out
        omega
      have hnS : ∀ p ∈ S, p.2 ≠ s := fun p hp => by
        have := lt_size (H5.out.1.mem.spots p hp).c
        have := HS5.out
        omega
      have hrs2 : r ≠ s := fun e => by omega
      have hend : KM T n w0 g nb sb q L x kb N nd0 b7 p10 r es cl D nd ds it k s (put k s S) (upd sp s ⟨none, .slice none 0 0, []⟩) (upd tag s (some (s, 3))) w7 := by
        refine ⟨hEI7, HH.out.spp.fresh HO.out hnS, kr6, kb6, ?_, ?_, fun i hi => ?_, (upd_ne _ _ hrs2).trans HH.out.nr, lkp_put_same _ _ _⟩
        · exact (HFR.out.2.keeps (keeps0 HM5.out (fun _ h => h))).mod m7 (fun i hi e => by
            rw [e, HK5.out] at hi
            cases hi)
        · refine (HFR.out.1.then0 HM5.out).then m7 (fun i hi e => ?_)
          rcases HH.out.ow sb (by rw [HEI.out.mem.tsb]; simp) with h1 | h1
          · rw [e]; exact h1
          · have := HF.out.hn; omega
        · by_cases e : i = s
          · rw [e]; exact .inr hn7
          · rw [upd_ne _ _ e] at hi
            exact HH.out.ow i hi
      have HEND := Lib.hid hend
      clear hend hEI7
      go_wp2_with fail
      go_meet
      exact ⟨s, _, _, _, rfl, HEND⟩
  case rest =>
    obtain ⟨s, S', sp', tag', rfl, HKM⟩ := hcut
    clear HM5 kg kr3 kb3 ksb kp11 HL HE2 HE HFR HMS HO
    have hsp := HKM.out.ei.mem.spots (k, s) (lkp_mem HKM.out.hk)
    go_wp2_with fail
    go_at_call 24
    refine (ahead_c s h _).mono ?_
    rintro e w8 ⟨rfl, rfl⟩
    go_wp2_with fail
    have hk8 : ∃ W8, (wc.alloc (.cells #[ptrV s] 67)).alloc (.cells #[.bool h] 4) = W8 ∧ W8.heap[wc.heap.size]? = some (.cells #[ptrV s] 67 (0, 0)) ∧ W8.heap[wc.heap.size + 1]? = some (.cells #[.bool h] 4 (0, 0)) ∧ Mod (fun _ => False) wc W8 := by
      refine ⟨_, rfl, ?_, ?_, ((Mod.refl _ _).alloc _).alloc _⟩
      · exact ((Mod.refl (fun _ => False) (wc.alloc (.cells #[ptrV s] 67))).alloc _).at0 (heap_alloc_new _ _)
      · have := heap_alloc_new (wc.alloc (.cells #[ptrV s] 67)) (.cells #[.bool h] 4)
        rwa [World.size_alloc] at this
    obtain ⟨W8, e8, kB, kW, m8⟩ := hk8
    rw [e8]
    generalize hbs : wc.heap.size = bs at *
    have hEI8 := HKM.out.ei.mod0 m8
    have hsp8 := hEI8.mem.spots (k, s) (lkp_mem HKM.out.hk)
    have hnone : ∀ i, bs ≤ i → tag' i = none := fun i hi => by
      cases e : tag' i with
      | none => rfl
      | some p =>
        have := HKM.out.ei.hlt i (by rw [e]; simp)
        omega
    have hnD := perm_not HP.out.1 HF.out.M.nodup
    obtain ⟨hs1, hs2⟩ := (HKM.out.spp.left k hnD).1 s HKM.out.hk
    obtain ⟨zw, zr, z1, z2, z3, z4⟩ := ahead_src L k
    have ksp8 := hsp8.c
    have ho8 := hsp8.o
    unfold src at ksp8
    rw [hs1, ← z1] at ksp8
    rw [hs2, ← z2] at ho8
    have nBl : bs ≠ p10 := fun e => by have := lt_size HKM.out.ei.kl; omega
    have nBl2 : bs + 1 ≠ p10 := fun e => by have := lt_size HKM.out.ei.kl; omega
    have hEl : (srcs L D).length ≤ 900000 := by
      have h1 := srcs_len L D
      have h2 := HP.out.1.length_eq
      have h3 := HF.out.kl
      have h4 := HF.out.Ll
      rw [List.length_append, List.length_append, List.length_singleton] at h2
      have h5 : D.length * (L.length + 1) ≤ 800 * 901 := Nat.mul_le_mul (by omega) (by omega)
      omega
    have hLl := HF.out.Ll
    refine rf_a hEI8 HF.out.pf hEl hq kB kW ksp8 ho8 (by omega) (hnone _ (Nat.le_refl _)) (hnone _ (by omega)) nBl nBl2 hsp8.ta hsp8.tr _ rfl rfl rfl rfl ?_
    intro Dm W9 tag2 nd2 hD hK hEI2 hext hM9 hKO
    have hz := hEI2.mem.spots (k, s) (lkp_mem HKM.out.hk)
    have hn8 : n ≤ W8.heap.size := by
      have h1 := (HKM.out.fr.then0 m8).size
      have h2 := HF.out.hn
      omega
    have hr8 : r < W8.heap.size := lt_size (m8.at0 HKM.out.kr)
    have hmk9 := (HKM.out.mks.keeps (keeps0 m8 (fun _ h => h))).cons' hKO hn8 hD hK
    have hfr9 : Mod T w0 W9 := (HKM.out.fr.then0 m8).then hM9 (fun i hi e => by
      have h3 := HF.out.hn
      rcases e with e | ⟨c, r', e, _⟩
      · have := HF.out.hl; omega
      · rcases HKM.out.ow i (by rw [e]; simp) with h1 | h1
        · exact h1
        · omega)
    have how9 : ∀ i, tag2 i ≠ none → T i ∨ n ≤ i := fun i hi => by
      by_cases h1 : i < W8.heap.size
      · exact HKM.out.ow i (by rw [← hext i h1]; exact hi)
      · exact .inr (by omega)
    have hnr9 : tag2 r = none := (hext r hr8).trans HKM.out.nr
    have hrl : r ≠ p10 := Ne.symm nrl
    have kr9 : W9.heap[r]? = some it := hM9.at (m8.at0 HKM.out.kr) (fun e => by
      rcases e with e | ⟨c, r', e, _⟩
      · exact hrl e
      · rw [HKM.out.nr] at e; cases e)
    have htk2 : tag2 kb = some (x.a, 1) := by
      have h1 := (hEI2.mem.nodes x.a (by simp)).tk
      rw [hEI2.ndp.new] at h1
      exact h1
    have hkb8 : kb < W8.heap.size := lt_size (m8.at0 HKM.out.km)
    have km9 : W9.heap[kb]? = some (.map es cl) := hM9.at (m8.at0 HKM.out.km) (fun e => by
      rcases e with e | ⟨c, r', e, h⟩
      · exact ne_of_obj hEI8.kl (m8.at0 HKM.out.km) (by simp) e.symm
      · rw [← hext kb hkb8, htk2] at e
        cases e
        omega)
    have hE9 : srcs L D ++ (aheadL zw zr h).map (·.1) = srcs L (D ++ [(k, h)]) := by rw [z4]; simp [srcs]
    rw [hE9] at hEI2
    have fin : ∀ (a' : Act) (Wf : World) (tagf : Tag) (X : Sr) (M : Nat → Prop), Fr g b7 p10 r x.id a' → a'.defers = { target := .collected Dm, args := #[] } :: ds → Mod M W9 Wf → (∀ i, M i → i = s ∨ (sp' s).rv.ownBlock = some i) → EI g nb sb q L x.a x.id kb x.ks N S' nd0 (upd sp' s X) b7 p10 (srcs L (D ++ [(k, h)])) tagf nd2 Wf →
        SpIs X (spotOf k (L ++ [x])) → (∀ i, i < W9.heap.size → tagf i = tag2 i) → Q .normal a' Wf := by
      intro a' Wf tagf X M h1 h2 h3 h4 h5 h6 h7
      have hMt : ∀ i, M i → ∃ r, tag2 i = some (s, r) ∧ 3 ≤ r := fun i hi => (h4 i hi).elim (fun e => ⟨3, by rw [e]; exact hz.ta, by omega⟩) (fun e => ⟨4, hz.tr i e, by omega⟩)
      have krf := h3.at kr9 (fun e => by
        obtain ⟨r', e, _⟩ := hMt _ e
        rw [hnr9] at e; cases e)
      have kmf := h3.at km9 (fun e => by
        obtain ⟨r', e, _⟩ := hMt _ e
        rw [htk2] at e
        cases e
        omega)
      refine HN.out (D ++ [(k, h)]) rem' S' (upd sp' s X) tagf nd2 a' Wf h1 ⟨h5, HKM.out.spp.step HKM.out.hk h6, (HEn.out Wf krf kmf).2, kmf, HP.out.1, ?_, ?_, fun i hi => ?_, ?_⟩ HP.out.2
      · rw [h2]
        refine hmk9.keeps (keeps_of h3 fun i hi => ?_)
        rcases h4 i hi with e | e
        · rw [e]; exact ⟨_, _, hz.c⟩
        · obtain ⟨cur, hk⟩ := own_block hz.o e
          exact ⟨_, _, hk⟩
      · refine hfr9.then h3 (fun i hi e => ?_)
        obtain ⟨r', e, _⟩ := hMt _ e
        rcases how9 i (by rw [e]; simp) with h8 | h8
        · exact h8
        · have := HF.out.hn; omega
      · by_cases h8 : i < W9.heap.size
        · exact how9 i (by rw [← h7 i h8]; exact hi)
        · have := hKO.size
          exact .inr (by omega)
      · exact (h7 r (lt_size kr9)).trans hnr9
    have hhow : x.how k = some h := lkp_of_mem HF.out.M.nodup (HP.out.1.mem_iff.1 (by simp))
    have HFIN := Lib.hid fin
    have HHOW := Lib.hid hhow
    have HZ := Lib.hid hz
    have HE9 := Lib.hid hEI2
    have HSP := Lib.hid (And.intro hs1 (And.intro hs2 hnD))
    have kz := hz.c
    have k79 := hEI2.k7
    have hoz := hz.o
    obtain ⟨ad, c0, e0, -, -, -⟩ := hoz.at ptrT
    unfold src at kz
    have hrl := congrArg List.length hs2
    rw [List.length_map] at hrl
    have hrl2 := spot_len k L
    have HR := Lib.hid (show (sp' s).rs.length ≤ 1000 by omega)
    rw [e0] at kz
    generalize hln : (sp' s).rs.length = ln at *
    have n7s : b7 ≠ s := fun e => by
      have h1 := HZ.out.ta
      rw [← e, HE9.out.n7] at h1
      cases h1
    have HE0 := Lib.hid (And.intro e0 hln)
    clear fin hhow hz hEI2 hs1 hs2 hnD hmk9 hfr9 how9 hE9 hext hM9 hKO hK hD hsp hsp8 hEI8 kB kW m8 ksp8 ho8 hoz e0 hrl hrl2 z1 z2 z3 z4 hnone hn8 hr8 hnr9 kr9 htk2 hkb8 km9 hEl hLl nBl nBl2 e8 hbs hln
    cases h with
    | true =>
      dsimp only
      go_upto_region 30 with fail
      have Lkz := lt_size kz
      have Lk79 := lt_size k79
      refine wp_pass0 (C := fun _ _ _ => False) (κ := fun i => [0, 0, 1, 0, 0, 5, 0, 0, 6].getD i 0) [0, 1, 2, 3, 4, 5, 6, 7, 8] (by kernel_rfl) (by kernel_rfl) (fun _ _ d _ _ h => by cases d <;> first | exact h | exact absurd h (hP _ _ _)) ?_
      (refine TD.val0 (v := ?v21) (by simp only [List.getElem?_toArray, List.getElem?_cons_succ, List.getElem?_cons_zero]; rfl) rfl ?hw21 (fun w1 => ?hy21) ?hn21; (case hw21 => rfl); (case hy21 => (go_simp; (try with_reducible rfl))); (try simp only [Act.put, List.setIfInBounds_toArray, List.set_cons_zero, List.set_cons_succ]))
      (refine TD.val0 (v := ?v22) (by simp only [List.getElem?_toArray, List.getElem?_cons_succ, List.getElem?_cons_zero]; rfl) rfl ?hw22 (fun w1 => ?hy22) ?hn22; (case hw22 => rfl); (case hy22 => (go_simp; (try with_reducible rfl))); (try simp only [Act.put, List.setIfInBounds_toArray, List.set_cons_zero, List.set_cons_succ]))
      (refine TD.load (v := ?v23) (p := ?p23) (Mod.refl _ _) (by simp only [List.getElem?_toArray, List.getElem?_cons_succ, List.getElem?_cons_zero]; rfl) rfl ?hw23 rfl ?hx23 (fun wq hSq => ?hy23) ?hn23; (case hw23 => rfl); (case hx23 => (simp only [Act.eval, Array.getD_eq_getD_getElem?, List.getElem?_toArray, List.getElem?_cons_succ, List.getElem?_cons_zero, Option.getD_some]; (try rfl))); (case hy23 => (have kzq := hSq.at kz (fun h => h); have k79q := hSq.at k79 (fun h => h); go_simp; (try with_reducible rfl))); (try simp only [Act.put, List.setIfInBounds_toArray, List.set_cons_zero, List.set_cons_succ]))
      (refine TD.val0 (v := ?v24) (by simp only [List.getElem?_toArray, List.getElem?_cons_succ, List.getElem?_cons_zero]; rfl) rfl ?hw24 (fun w1 => ?hy24) ?hn24; (case hw24 => rfl); (case hy24 => (go_simp; (try with_reducible rfl))); (try simp only [Act.put, List.setIfInBounds_toArray, List.set_cons_zero, List.set_cons_succ]))
      (refine TD.val0 (v := ?v25) (by simp only [List.getElem?_toArray, List.getElem?_cons_succ, List.getElem?_cons_zero]; rfl) rfl ?hw25 (fun w1 => ?hy25) ?hn25; (case hw25 => rfl); (case hy25 => (go_simp; (try with_reducible rfl))); (try simp only [Act.put, List.setIfInBounds_toArray, List.set_cons_zero, List.set_cons_succ]))
      refine TD.eff (by simp only [List.getElem?_toArray, List.getElem?_cons_succ, List.getElem?_cons_zero]; rfl) rfl (fun w10 hr => ?_)
      have kz := hr.mod.at kz (fun h => h)
      have k79 := hr.mod.at k79 (fun h => h)
      have mA := hr.mod
      clear hr
      (refine eff_store (X := ?X27) (Y := ?Y27) (w' := ?w27) (by simp only [List.getElem?_toArray, List.getElem?_cons_succ, List.getElem?_cons_zero]; rfl) ?hw27 rfl ?hx27 ?hz27 ?hy27 ?hn27; (case hw27 => rfl); (case hx27 => (simp only [Act.eval, Array.getD_eq_getD_getElem?, List.getElem?_toArray, List.getElem?_cons_succ, List.getElem?_cons_zero, Option.getD_some]; (try rfl))); (case hz27 => (simp only [Act.eval, Array.getD_eq_getD_getElem?, List.getElem?_toArray, List.getElem?_cons_succ, List.getElem?_cons_zero, Option.getD_some]; (try rfl))); (case hy27 => (go_simp; (try with_reducible rfl))))
      (first | refine TE.mid_set kz (fun wn kz mS => ?_) | refine TE.mid_setCell kz (fun wn kz mS => ?_))
      (try simp only [Array.setIfInBounds, List.setIfInBounds_toArray, List.set_cons_zero, List.set_cons_succ] at kz)
      have mB : Mod (fun i => i = s) W9 wn := (mA.mono (fun _ _ h => h.elim)).then mS (fun _ _ e => e)
      replace k79 := mS.at_ne k79 n7s
      clear mS mA
      (refine TE.val0 (v := ?v28) (by simp only [List.getElem?_toArray, List.getElem?_cons_succ, List.getElem?_cons_zero]; rfl) ?hw28 (fun w1 => ?hy28) ?hn28; (case hw28 => rfl); (case hy28 => (go_simp; (try with_reducible rfl))); (try simp only [Act.put, List.setIfInBounds_toArray, List.set_cons_zero, List.set_cons_succ]))
      (refine TE.val0 (v := ?v29) (by simp only [List.getElem?_toArray, List.getElem?_cons_succ, List.getElem?_cons_zero]; rfl) ?hw29 (fun w1 => ?hy29) ?hn29; (case hw29 => rfl); (case hy29 => (go_simp; (try with_reducible rfl))); (try simp only [Act.put, List.setIfInBounds_toArray, List.set_cons_zero, List.set_cons_succ]))
      refine TE.step (by simp only [List.getElem?_toArray, List.getElem?_cons_succ, List.getElem?_cons_zero]; rfl) rfl ?_
      (refine eff_store (X := ?X30) (Y := ?Y30) (w' := ?w30) (by simp only [List.getElem?_toArray, List.getElem?_cons_succ, List.getElem?_cons_zero]; rfl) ?hw30 rfl ?hx30 ?hz30 ?hy30 ?hn30; (case hw30 => rfl); (case hx30 => (simp only [Act.eval, Array.getD_eq_getD_getElem?, List.getElem?_toArray, List.getElem?_cons_succ, List.getElem?_cons_zero, Option.getD_some]; (try rfl))); (case hz30 => (simp only [Act.eval, Array.getD_eq_getD_getElem?, List.getElem?_toArray, List.getElem?_cons_succ, List.getElem?_cons_zero, Option.getD_some]; (try rfl))); (case hy30 => (go_simp; (try with_reducible rfl))))
      (first | refine TE.nil_set kz (fun wn kz mS => ?_) | refine TE.nil_setCell kz (fun wn kz mS => ?_))
      (try simp only [Array.setIfInBounds, List.setIfInBounds_toArray, List.set_cons_zero, List.set_cons_succ] at kz)
      have mC := mB.then mS (fun i _ e => e)
      clear mS mB
      (try simp only [Act.put, List.setIfInBounds_toArray, List.set_cons_zero, List.set_cons_succ])
      replace kz : wn.heap[s]? = some (.cells #[ptrV x.a, .slice none 0 0] 69 (0, 0)) := kz
      have hX : SpIs ⟨some x.a, .slice none 0 0, []⟩ (spotOf k (L ++ [x])) := by
        rw [spotOf_snoc]
        unfold stepS
        rw [HHOW.out]
        exact ⟨rfl, rfl⟩
      have hsz := mC.size
      have hnp : p10 ≠ s := fun e => by
        have h1 := HZ.out.ta
        rw [← e, HE9.out.nl] at h1
        cases h1
      have hEIf := HE9.out.spot (s := s) (X := ⟨some x.a, .slice none 0 0, []⟩) (tag' := tag2) mC (fun i c r e hi => by
        rw [hi, HZ.out.ta] at e
        cases e
        exact ⟨rfl, by omega, by omega⟩) n7s hnp (fun _ _ => rfl) ⟨kz, SlOwn.nil _ _, HZ.out.ta, fun g hg => by cases hg⟩ (fun i hi => Nat.lt_of_lt_of_le (HE9.out.hlt i hi) hsz)
      have HG := Lib.hid (And.intro hX (And.intro hEIf mC))
      clear hX hEIf mC hsz hnp
      go_wp2_with fail
      exact HFIN.out _ _ tag2 ⟨some x.a, .slice none 0 0, []⟩ _ ⟨rfl, rfl, rfl, rfl, rfl, rfl⟩ rfl HG.out.2.2 (fun i e => .inl e) HG.out.2.1 HG.out.1 (fun _ _ => rfl)
    | false =>
      dsimp only
      obtain ⟨e0, hln⟩ := HE0.out
      have hrs := HR.out
      have hO0 := HZ.out.o
      have ht0 := HZ.out.tr
      rw [e0] at hO0 ht0
      have nTs : ¬ (Value.slice ad ln c0).ownBlock = some s := fun e => by
        have h1 := ht0 _ e
        rw [HZ.out.ta] at h1
        cases h1
      have nT7 : ¬ (Value.slice ad ln c0).ownBlock = some b7 := fun e => by
        have h1 := ht0 _ e
        rw [HE9.out.n7] at h1
        cases h1
      have nTl : ¬ (Value.slice ad ln c0).ownBlock = some p10 := fun e => by
        have h1 := ht0 _ e
        rw [HE9.out.nl] at h1
        cases h1
      have HT0 := Lib.hid ht0
      have HO0 := Lib.hid hO0
      clear ht0 e0 hln hrs
      go_upto_region 31 with fail
      have Lkz := lt_size kz
      have Lk79 := lt_size k79
      refine wp_epass (T0 := fun i => (Value.slice ad ln c0).ownBlock = some i) (K := OwnP (sp' s).rs (.slice ad ln c0)) (κ := fun i => [0, 0, 0, 0, 0, 0, 3, 6, 0, 0, 6].getD i 0) (υ := fun i => [[], [], [], [], [], [], [], [147], [], [], []].getD i []) [0, 1, 2, 3, 4, 5, 6, 7] [8, 9, 10] (by kernel_rfl) (by kernel_rfl) (goodOwnP (sp' s).rs (.slice ad ln c0)).cl (⟨hO0, fun g hg => hg⟩) (fun i hi => (hO0.lt i hi).2) ?_
      have gK := goodOwnP (sp' s).rs (.slice ad ln c0)
      (refine TG.v0 (v := ?v31) (by simp only [List.getElem?_toArray, List.getElem?_cons_succ, List.getElem?_cons_zero]; rfl) rfl ?hw31 (fun w1 => ?hy31) ?hn31; (case hw31 => rfl); (case hy31 => (go_simp; (try with_reducible rfl))); (try simp only [Act.put, List.setIfInBounds_toArray, List.set_cons_zero, List.set_cons_succ]))
      (refine TG.v0 (v := ?v32) (by simp only [List.getElem?_toArray, List.getElem?_cons_succ, List.getElem?_cons_zero]; rfl) rfl ?hw32 (fun w1 => ?hy32) ?hn32; (case hw32 => rfl); (case hy32 => (go_simp; (try with_reducible rfl))); (try simp only [Act.put, List.setIfInBounds_toArray, List.set_cons_zero, List.set_cons_succ]))
      (refine TG.v0 (v := ?v33) (by simp only [List.getElem?_toArray, List.getElem?_cons_succ, List.getElem?_cons_zero]; rfl) rfl ?hw33 (fun w1 => ?hy33) ?hn33; (case hw33 => rfl); (case hy33 => (go_simp; (try with_reducible rfl))); (try simp only [Act.put, List.setIfInBounds_toArray, List.set_cons_zero, List.set_cons_succ]))
      (refine TG.v0 (v := ?v34) (by simp only [List.getElem?_toArray, List.getElem?_cons_succ, List.getElem?_cons_zero]; rfl) rfl ?hw34 (fun w1 => ?hy34) ?hn34; (case hw34 => rfl); (case hy34 => (go_simp; (try with_reducible rfl))); (try simp only [Act.put, List.setIfInBounds_toArray, List.set_cons_zero, List.set_cons_succ]))
      (refine TG.load (v := ?v35) (p := ?p35) (by simp only [List.getElem?_toArray, List.getElem?_cons_succ, List.getElem?_cons_zero]; rfl) rfl ?hw35 rfl ?hx35 (fun wq hSq => ?hy35) ?hn35; (case hw35 => rfl); (case hx35 => (simp only [Act.eval, Array.getD_eq_getD_getElem?, List.getElem?_toArray, List.getElem?_cons_succ, List.getElem?_cons_zero, Option.getD_some]; (try rfl))); (case hy35 => (have kzq := hSq.at kz (by intro hT; first | exact hT | exact absurd hT (by assumption) | omega | (simp only at hT; omega)); have k79q := hSq.at k79 (by intro hT; first | exact hT | exact absurd hT (by assumption) | omega | (simp only at hT; omega)); go_simp; (try with_reducible rfl))); (try simp only [Act.put, List.setIfInBounds_toArray, List.set_cons_zero, List.set_cons_succ]))
      (refine TG.load (v := ?v36) (p := ?p36) (by simp only [List.getElem?_toArray, List.getElem?_cons_succ, List.getElem?_cons_zero]; rfl) rfl ?hw36 rfl ?hx36 (fun wq hSq => ?hy36) ?hn36; (case hw36 => rfl); (case hx36 => (simp only [Act.eval, Array.getD_eq_getD_getElem?, List.getElem?_toArray, List.getElem?_cons_succ, List.getElem?_cons_zero, Option.getD_some]; (try rfl))); (case hy36 => (have kzq := hSq.at kz (by intro hT; first | exact hT | exact absurd hT (by assumption) | omega | (simp only at hT; omega)); have k79q := hSq.at k79 (by intro hT; first | exact hT | exact absurd hT (by assumption) | omega | (simp only at hT; omega)); go_simp; (try with_reducible rfl))); (try simp only [Act.put, List.setIfInBounds_toArray, List.set_cons_zero, List.set_cons_succ]))
      (refine TG.bslice (by simp only [List.getElem?_toArray, List.getElem?_cons_succ, List.getElem?_cons_zero]; rfl) rfl ?hw37 rfl rfl ?hx37 (bsP x.a) (fun p147 hp147 _ => ?hn37); (case hw37 => rfl); (case hx37 => (simp only [List.map_toArray, List.map_cons, List.map_nil, Act.eval, Array.getD_eq_getD_getElem?, List.getElem?_toArray, List.getElem?_cons_succ, List.getElem?_cons_zero, Option.getD_some]; (try rfl))); (try simp only [Act.put, List.setIfInBounds_toArray, List.set_cons_zero, List.set_cons_succ]))
      (refine TG.appK (X := ?X38) (Y := ?Y38) (OwnP ((sp' s).rs ++ [x.a])) (goodOwnP ((sp' s).rs ++ [x.a])) (by simp only [List.getElem?_toArray, List.getElem?_cons_succ, List.getElem?_cons_zero]; rfl) rfl ?hw38 rfl ?hx38 ?hz38 (fun T wq kq ltq hSq ub => ?hy38) ?hn38; (case hw38 => rfl); (case hx38 => (simp only [Act.eval, Array.getD_eq_getD_getElem?, List.getElem?_toArray, List.getElem?_cons_succ, List.getElem?_cons_zero, Option.getD_some]; (try rfl))); (case hz38 => (simp only [Act.eval, Array.getD_eq_getD_getElem?, List.getElem?_toArray, List.getElem?_cons_succ, List.getElem?_cons_zero, Option.getD_some]; (try rfl))); (case hy38 => (have kzq := hSq.at kz (by intro hT; first | exact hT | exact absurd hT (by assumption) | omega | (simp only at hT; omega)); have k79q := hSq.at k79 (by intro hT; first | exact hT | exact absurd hT (by assumption) | omega | (simp only at hT; omega)); have kp147 := ub.box (p := p147) (by first | exact Bx.set_same _ _ _ | (simp only [Bx.set_same]; rfl)) (by first | decide | exact List.mem_singleton.2 rfl | simp); dsimp only [Value.cells] at kp147; exact app_ptr1 kq kp147 (by have := HR.out; have h9 := HE0.out.2; omega))); rintro v38 ⟨wI, TI, hI⟩; replace gK := (goodOwnP ((sp' s).rs ++ [x.a])) v38; skip; (try clear hI TI wI); (try simp only [Act.put, List.setIfInBounds_toArray, List.set_cons_zero, List.set_cons_succ]))
      refine TG.nil (fun w10 ⟨TR, hr⟩ => ?_)
      have kz := hr.mod.at kz (by intro hT; first | exact hT | exact absurd hT (by assumption) | omega | (simp only at hT; omega))
      have k79 := hr.mod.at k79 (by intro hT; first | exact hT | exact absurd hT (by assumption) | omega | (simp only at hT; omega))
      have kp147 := hr.box p147 _ (by first | exact Bx.set_same _ _ _ | (simp only [Bx.set_same]; rfl)); dsimp only [Value.cells] at kp147; obtain ⟨gp147, nTp147, kp147⟩ := kp147
      clear gK
      have hO1 := hr.k.1
      obtain ⟨a6, c6, hv6, _⟩ := hO1.at ptrT
      generalize hn6 : ((sp' s).rs ++ [x.a]).length = n6 at hv6
      subst hv6
      have nT1 : ∀ i, (Value.slice a6 n6 c6).ownBlock = some i → (Value.slice ad ln c0).ownBlock = some i ∨ W9.heap.size ≤ i := fun i hi => by
        rcases Nat.lt_or_ge i W9.heap.size with h | h
        · exact .inl (hr.old i h (hr.k.2 i hi))
        · exact .inr h
      have m1 := hr.mod
      have HO1 := Lib.hid (And.intro hO1 (And.intro nT1 hn6))
      have HM1 := Lib.hid m1
      have Ls9 := lt_size HZ.out.c
      clear hO1 nT1 hr m1 hn6 hO0
      (refine TE.val0 (v := ?v39) (by simp only [List.getElem?_toArray, List.getElem?_cons_succ, List.getElem?_cons_zero]; rfl) ?hw39 (fun w1 => ?hy39) ?hn39; (case hw39 => rfl); (case hy39 => (go_simp; (try with_reducible rfl))); (try simp only [Act.put, List.setIfInBounds_toArray, List.set_cons_zero, List.set_cons_succ]))
      (refine TE.val0 (v := ?v40) (by simp only [List.getElem?_toArray, List.getElem?_cons_succ, List.getElem?_cons_zero]; rfl) ?hw40 (fun w1 => ?hy40) ?hn40; (case hw40 => rfl); (case hy40 => (go_simp; (try with_reducible rfl))); (try simp only [Act.put, List.setIfInBounds_toArray, List.set_cons_zero, List.set_cons_succ]))
      refine TE.step (by simp only [List.getElem?_toArray, List.getElem?_cons_succ, List.getElem?_cons_zero]; rfl) rfl ?_
      (refine eff_store (X := ?X41) (Y := ?Y41) (w' := ?w41) (by simp only [List.getElem?_toArray, List.getElem?_cons_succ, List.getElem?_cons_zero]; rfl) ?hw41 rfl ?hx41 ?hz41 ?hy41 ?hn41; (case hw41 => rfl); (case hx41 => (simp only [Act.eval, Array.getD_eq_getD_getElem?, List.getElem?_toArray, List.getElem?_cons_succ, List.getElem?_cons_zero, Option.getD_some]; (try rfl))); (case hz41 => (simp only [Act.eval, Array.getD_eq_getD_getElem?, List.getElem?_toArray, List.getElem?_cons_succ, List.getElem?_cons_zero, Option.getD_some]; (try rfl))); (case hy41 => (go_simp; (try with_reducible rfl))))
      (first | refine TE.nil_set kz (fun wn kz mS => ?_) | refine TE.nil_setCell kz (fun wn kz mS => ?_))
      (try simp only [Array.setIfInBounds, List.setIfInBounds_toArray, List.set_cons_zero, List.set_cons_succ] at kz)
      (try simp only [Act.put, List.setIfInBounds_toArray, List.set_cons_zero, List.set_cons_succ])
      replace kz : wn.heap[s]? = some (.cells #[opV (sp' s).wr, .slice a6 n6 c6] 69 (0, 0)) := kz
      have mC : Mod (fun i => i = s ∨ (Value.slice ad ln c0).ownBlock = some i) W9 wn := (HM1.out.mono (fun _ _ e => .inr e)).then mS (fun _ _ e => .inl e)
      have hO2 := HO1.out.1.mod mS (fun g hg e => by
        rw [e] at hg
        rcases HO1.out.2.1 _ hg with h | h
        · exact nTs h
        · omega)
      clear mS
      have hX : SpIs ⟨(sp' s).wr, .slice a6 n6 c6, (sp' s).rs ++ [x.a]⟩ (spotOf k (L ++ [x])) := by
        rw [spotOf_snoc]
        unfold stepS
        rw [HHOW.out]
        refine ⟨HSP.out.1, ?_⟩
        dsimp only
        rw [HSP.out.2.1, List.map_append]
        rfl
      have hsz := mC.size
      have hnp : p10 ≠ s := fun e => by
        have h1 := HZ.out.ta
        rw [← e, HE9.out.nl] at h1
        cases h1
      have hT : ∀ i, i < W9.heap.size → (if W9.heap.size ≤ i ∧ (Value.slice a6 n6 c6).ownBlock = some i then some (s, 4) else tag2 i) = tag2 i := fun i hi => by rw [if_neg (by omega)]
      have hEIf := HE9.out.spot (s := s) (X := ⟨(sp' s).wr, .slice a6 n6 c6, (sp' s).rs ++ [x.a]⟩) (tag' := fun i => if W9.heap.size ≤ i ∧ (Value.slice a6 n6 c6).ownBlock = some i then some (s, 4) else tag2 i) mC (fun i c r e hi => by
        rcases hi with hi | hi
        · rw [hi, HZ.out.ta] at e
          cases e
          exact ⟨rfl, by omega, by omega⟩
        · rw [HT0.out i hi] at e
          cases e
          exact ⟨rfl, by omega, by omega⟩) (fun e => e.elim n7s nT7) (fun e => e.elim hnp nTl) hT ⟨kz, hO2, (hT _ Ls9).trans HZ.out.ta, fun g hg => by
            by_cases h : W9.heap.size ≤ g
            · simp only [if_pos (And.intro h hg)]
            · rcases HO1.out.2.1 g hg with h1 | h1
              · rw [hT g (by omega)]
                exact HT0.out g h1
              · exact absurd h1 h⟩ (fun i hi => by
            by_cases h : W9.heap.size ≤ i ∧ (Value.slice a6 n6 c6).ownBlock = some i
            · exact (hO2.lt _ h.2).2
            · simp only [if_neg h] at hi
              exact Nat.lt_of_lt_of_le (HE9.out.hlt i hi) hsz)
      have HG := Lib.hid (And.intro hX (And.intro hEIf (And.intro mC hT)))
      clear hX hEIf mC hsz hnp hT hO2
      go_wp2_with fail
      exact HFIN.out _ _ _ ⟨(sp' s).wr, .slice a6 n6 c6, (sp' s).rs ++ [x.a]⟩ _ ⟨rfl, rfl, rfl, rfl, rfl, rfl⟩ rfl HG.out.2.2.1 (fun i e => e.imp _root_.id (fun e => by rw [HE0.out.1]; exact e)) HG.out.2.1 HG.out.1 HG.out.2.2.2
set_option maxRecDepth 100000 in
set_option maxHeartbeats 4000000 in
/-- **All keys.** -/
theorem keys_c {T : Nat → Prop} {n : Nat} {w0 : World} {g nb sb q : Nat} {L : List An} {x : An} {kb : Nat} {N : List (Int64 × Nat)} {nd0 : Nat → Nr} {b7 p10 r : Nat} {es : Array MapEntry} {cl : Nat}
    (F : KF T n w0 L x kb nd0 b7 p10 r es cl) (hq : q ≤ 1000000) {act : Act} {W : World} (hF : Fr g b7 p10 r x.id act) (H : ∃ D rem S sp tag nd, KI T n w0 g nb sb q L x kb N nd0 b7 p10 r es cl D rem S sp tag nd act.defers W) {Q : Exit → Act → World → Prop} (hP : ∀ c a w, ¬ Q (.panic c) a w) (hL : ¬ LetsOut Q)
    (hdone : ∀ D S' sp' tag' nd' a' W', Fr g b7 p10 r x.id a' → KI T n w0 g nb sb q L x kb N nd0 b7 p10 r es cl D [] S' sp' tag' nd' a'.defers W' → Q (.exit 2) a' W') : (Code.loop keysBody).wp Try.prog Q act W := by
  refine wp_loop (fun a w => Fr g b7 p10 r x.id a ∧ ∃ D rem S sp tag nd, KI T n w0 g nb sb q L x kb N nd0 b7 p10 r es cl D rem S sp tag nd a.defers w) (fun _ w => leftN w r kb) ⟨hF, H⟩ ?_
  rintro a w ⟨hf, D, rem, S, sp, tag, nd, K⟩
  have hlf := K.it.leftN K.km
  obtain ⟨t, ds⟩ := a
  obtain ⟨f0, f1, f2, f3, f4, f5⟩ := hf
  dsimp only at f0 f1 f2 f3 f4 f5 K
  obtain ⟨u, hu, e⟩ := arr157 t f0
  rw [hu] at f1 f2 f3 f4 f5
  rw [f1, f2, f3, f4, f5] at e
  subst e
  by_cases hrem : rem = []
  · subst hrem
    refine key_end F K u ?_
    rintro a' hf' rfl
    exact hdone D S sp tag nd a' w hf' K
  · refine key_c F K hq hrem u (fun c a w h => hP c a w h) (fun ⟨a, w, h⟩ => hL ⟨a, w, h⟩) ?_
    intro D' rem' S' sp' tag' nd' a' W' hf' K' hlt
    exact ⟨⟨hf', D', rem', S', sp', tag', nd', K'⟩, by rw [hlf, K'.it.leftN K'.km]; exact hlt⟩
end Go.Proofs.Ytffcnnogkpdinaa
