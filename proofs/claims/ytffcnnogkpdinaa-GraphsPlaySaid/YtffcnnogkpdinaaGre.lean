/- Graphs: Ready. -/
import Derived.Test.YtffcnnogkpdinaaGk
import Derived.Test.YtffcnnogkpdinaaGso
namespace Go.Proofs.Ytffcnnogkpdinaa
open Go.RowKit Go.Sort
open Go.ChangeMaps (setBlock)
set_option linter.unusedSimpArgs false
set_option linter.unusedVariables false
attribute [local go_sem] cell_blk frozen_blk one_int one_bool one_ptr one_slice one_map Value.cells eqMap neMap
/-- The block is none that a string shares. -/
def Fz (w : World) (a : Option Addr) : Prop := ∀ p o, a = some ⟨p, o, none⟩ → ∃ C U, w.heap[p]? = some (.cells C U (0, 0))
section
variable {α : Type} {P : Program} {T E : TypeId} {f : α → Array Value} {n B : Nat}
theorem sl_clip (hT : ElT P T E f n B) {g o cap len : Nat} (hk : len ≤ cap) (w : World) :
    (Instr.sliceAt T (.slice (some ⟨g, o, none⟩) len cap) none (some (.int .i64 (len : Int))) (some (.int .i64 (len : Int)))).run P w = .ok (.slice (some ⟨g, o, none⟩) len len) w := by
  obtain ⟨i0, z, hi, hz, hz1, hz2, hz3⟩ := hT.info
  have hadd : (⟨g, o, none⟩ : Addr).add (0 * n) = ⟨g, o, none⟩ := by
    unfold Addr.add
    rw [Nat.zero_mul, if_pos rfl]
  have hp : (0 : Int) ≤ (len : Int) ∧ (len : Int) ≤ (cap : Int) := ⟨by omega, by omega⟩
  have hp2 : (0 : Int) ≤ (len : Int) ∧ (len : Int) ≤ (len : Int) := ⟨by omega, by omega⟩
  simp only [Instr.sliceAt, Instr.slice, Instr.sliceBounds, Instr.sliceBound, asIntOf, sizeOf, typeInfo, run_underlying hT.u, hi, Sem.run_bind, Sem.run_pure, Result.andThen_ok]
  rw [if_pos hp]
  simp only [Sem.run_pure, Result.andThen_ok, Go.program, Sem.run, hi, hz1, Option.map_some, Int.toNat_natCast, hadd, Nat.sub_zero, ite_self, hp2, and_self, if_true]
theorem sl_clip0 (hT : ElT P T E f n B) (w : World) :
    (Instr.sliceAt T (.slice none 0 0) none (some (.int .i64 0)) (some (.int .i64 0))).run P w = .ok (.slice none 0 0) w := by
  obtain ⟨i0, z, hi, hz, hz1, hz2, hz3⟩ := hT.info
  simp only [Instr.sliceAt, Instr.slice, Instr.sliceBounds, Instr.sliceBound, asIntOf, sizeOf, typeInfo, run_underlying hT.u, hi, Sem.run_bind, Sem.run_pure, Result.andThen_ok]
  rw [if_pos ⟨by omega, by omega⟩]
  simp [Sem.run_pure, Result.andThen_ok, Go.program, Sem.run, hi, hz1]
theorem clip_own (hT : ElT P T E f n B) {w : World} {base : Nat} {v : Value} {l : List α} (h : SlOwn f n E w base v l) :
    ∃ a c, v = .slice a l.length c ∧ (∀ w2, (Instr.sliceAt T v none (some (.int .i64 (l.length : Int))) (some (.int .i64 (l.length : Int)))).run P w2 = .ok (.slice a l.length l.length) w2) ∧ SlAt f n w a l ∧ (∀ x, a = some x → base ≤ x.block ∧ v.ownBlock = some x.block) ∧ Fz w a := by
  obtain ⟨a, c, h1, h2, h3, h4⟩ := h.at hT
  rcases h.2 with ⟨rfl, hn⟩ | ⟨g, cap, cur, rfl, hb, hg, hnc, hcm, hcs, htake⟩
  · obtain rfl : l = [] := List.eq_nil_of_length_eq_zero hn
    injection h1 with e1 e2 e3
    subst e1
    exact ⟨none, 0, rfl, fun w2 => sl_clip0 hT w2, h2, fun x hx => ⟨(h3 x hx).1, (h3 x hx).2.2⟩, fun p o e => by cases e⟩
  · injection h1 with e1 e2 e3
    subst e1
    exact ⟨_, cap, rfl, fun w2 => sl_clip hT hnc w2, h2, fun x hx => ⟨(h3 x hx).1, (h3 x hx).2.2⟩, fun p o e => by cases e; exact ⟨_, _, hg⟩⟩
end
def ic (i : Int64) : Array Value := #[.int .i64 i.toInt]
theorem intT : ElT Try.prog 36 3 ic 1 8 where
  u := Try.underlying36
  info := by
    obtain ⟨i0, hi, hz0, hz1, hz2⟩ := info_parts (show (Try.prog.info? 3).map (fun i => (i.zero, i.size, i.bytes)) = some (some (.int .i64 0), 1, 8) by kernel_rfl)
    exact ⟨i0, _, hi, hz0, hz1, hz2, rfl⟩
  pos := by omega
  size x := rfl
  one x u hu := by
    simp [ic] at hu
    subst hu
    rfl
theorem cellsOf_ic (l : List Int64) : cellsOf ic l = l.map fun b => .int .i64 b.toInt := by
  unfold cellsOf ic
  induction l with
  | nil => rfl
  | cons b l ih => simpa using ih
theorem own_ints {w : World} {base q n : Nat} {cur : Array Value} {l : List Int64} (hb : base ≤ q) (hg : w.heap[q]? = some (.cells cur 3 (0, 0))) (hs : cur.size = n) (hl : l.length = n) (hn : n ≤ maxLen) (hc : ∀ (i : Nat) x, l[i]? = some x → cur[i]? = some (.int .i64 x.toInt)) :
    SlOwn ic 1 3 w base (.slice (some ⟨q, 0, none⟩) n n) l := by
  subst hl
  refine ⟨?_, .inr ⟨q, l.length, cur, rfl, hb, hg, Nat.le_refl _, hn, by omega, ?_⟩⟩
  · rw [cellsOf_ic]; simp
  · rw [cellsOf_ic, Nat.mul_one]
    apply List.ext_getElem?
    intro i
    rw [List.getElem?_take, List.getElem?_map]
    by_cases hi : i < l.length
    · rw [if_pos hi, List.getElem?_eq_getElem hi]
      have := hc i _ (List.getElem?_eq_getElem hi)
      simpa using this
    · rw [if_neg hi, List.getElem?_eq_none (by omega)]
      rfl
theorem oneInt (w : World) (x : Int64) : SlAt ic 1 (w.alloc (.cells (ic x) 3)) (some ⟨w.heap.size, 0, none⟩) [x] := by
  have hb := heap_alloc_new w (.cells (ic x) 3)
  refine .inr ⟨_, 0, _, _, _, rfl, hb, fun i y hy => ?_⟩
  cases i with
  | zero =>
    simp at hy
    subst hy
    exact ⟨rfl, by simp [ic]⟩
  | succ i => simp at hy
theorem bsInt (x : Int64) (w : World) : (Instr.buildSlice 36 1 #[(0, .int .i64 x.toInt)]).run Try.prog w = .ok (.slice (some ⟨w.heap.size, 0, none⟩) 1 1) (w.alloc (.cells (ic x) 3)) := by
  go_simp
  try rfl
theorem clipI_c (v v2 : Value) (w : World) (n : Nat) {a : Option Addr} {c : Nat} (hv : v = .slice a n c) (h : ∀ w2, (Instr.sliceAt 36 v none (some (.int .i64 (n : Int))) (some (.int .i64 (n : Int)))).run Try.prog w2 = .ok v2 w2) :
    Calls Try.prog 29 #[v] w fun e w' => e = .returned v2 ∧ w' = w := by
  subst hv
  go_enter Try.func29, Try.ntmps29
  go_wp2_with fail
  go_ret
  exact ⟨rfl, rfl⟩
/-- Those that nobody blocks. -/
noncomputable def readyFrom (pre : List Cn) : List Cn → List Int64
  | [] => []
  | x :: r => (open Classical in if ∃ y ∈ pre, HitC y x then [] else [x.id]) ++ readyFrom (pre ++ [x]) r
noncomputable def readyC (C : List Cn) : List Int64 := readyFrom [] C
/-- Those without edges. -/
def outL (nd : Nat → Nr) (l : List An) : List Int64 := (l.filter fun x => decide ((nd x.a).wt = 0)).map An.id
section
variable {q : Nat} {L : List An} {N : List (Int64 × Nat)} {S : List (Key × Nat)} {nd : Nat → Nr} {sp : Nat → Sr}
theorem GInv.wt0 (I : GInv q L N S nd sp) {X Y : List An} {x : An} (h : L = X ++ x :: Y) : (nd x.a).wt = 0 ↔ ∀ y ∈ X, ¬ HitC y.cn x.cn := by
  rw [I.wts X x Y h, List.length_eq_zero_iff]
  exact srcs_nil_iff (I.kn x (by rw [h]; simp))
theorem GInv.ready (I : GInv q L N S nd sp) : ∀ (Y X : List An), L = X ++ Y → outL nd Y = readyFrom (X.map An.cn) (Y.map An.cn)
  | [], _, _ => rfl
  | x :: Y, X, h => by
    have h2 := GInv.ready I Y (X ++ [x]) (by rw [h]; simp)
    have h3 := I.wt0 h
    rw [List.map_append] at h2
    show outL nd (x :: Y) = _ ++ readyFrom _ _
    rw [← show [x].map An.cn = [x.cn] from rfl, ← h2]
    unfold outL
    rw [List.filter_cons]
    by_cases h0 : (nd x.a).wt = 0
    · rw [if_pos (by simpa using h0), if_neg (fun ⟨y, hy, hh⟩ => by
        obtain ⟨z, hz, rfl⟩ := List.mem_map.1 hy
        exact h3.1 h0 z hz hh)]
      rfl
    · rw [if_neg (by simpa using h0), if_pos (Classical.byContradiction fun hn => h0 (h3.2 fun y hy hh => hn ⟨y.cn, List.mem_map.2 ⟨y, hy, rfl⟩, hh⟩))]
      rfl
end
set_option maxRecDepth 20000 in
set_option maxHeartbeats 3200000 in
theorem ready_c {g q : Nat} {C : List Cn} {T : Nat → Prop} {w : World} (hA : GAt g q C T w) : Calls Try.prog 13 #[ptrV g] w fun e w' =>
    ∃ a, e = .returned (.slice a (readyC C).length (readyC C).length) ∧ SlAt ic 1 w' a (readyC C) ∧ Fz w' a ∧ (∀ x, a = some x → w.heap.size ≤ x.block) ∧ Mod (fun _ => False) w w' := by
  obtain ⟨tag, nb, sb, L, N, S, nd, sp, H, I, rfl, hO⟩ := hA
  obtain ⟨es, c0, kb, M⟩ := H.kn
  have kh := H.c
  have hrd : outL nd L = readyC (L.map An.cn) := I.ready L [] rfl
  rw [← hrd]
  have hNl : N.length ≤ 900 := by
    rw [I.len]
    have h1 := I.Llen
    have h2 := I.pub
    omega
  have hLl : L.length ≤ 900 := by
    rw [← I.len]
    exact hNl
  have hnd : ∀ b ∈ L.map An.a, w.heap[b]? = some (.cells (nrc (nd b)) 66 (0, 0)) := fun b hb => (H.nodes b hb).c
  have hNp : (N.map Prod.snd).Perm (L.map An.a) := by
    have := I.N.map Prod.snd
    rwa [List.map_map] at this
  have hsrt : (L.map An.a).Pairwise (fun a b => (nd a).pt < (nd b).pt) := by
    rw [List.pairwise_map]
    have h1 := I.pts
    rw [List.pairwise_map] at h1
    exact (List.pairwise_iff_forall_sublist.2 fun {x y} h => by
      have h2 := (List.pairwise_iff_forall_sublist.1 h1) h
      have hx : x ∈ L := h.subset (by simp)
      have hy : y ∈ L := h.subset (by simp)
      rw [(I.nds x hx).2.2.1, (I.nds y hy).2.2.1]
      exact h2)
  have HI := Lib.hid (And.intro I (And.intro hnd (And.intro hNp hsrt)))
  have HM := Lib.hid M
  have HB := Lib.hid kb
  clear H I hO M kb hrd hnd hNp hsrt
  go_enter Try.func13, Try.ntmps13
  go_wp2_with fail
  go_at_call 23
  refine (there_c kh).mono ?_
  rintro e w1 ⟨rfl, rfl⟩
  go_wp2_with fail
  go_at_call 26
  refine (values_c nb _).mono ?_
  rintro e w2 ⟨rfl, rfl⟩
  have hm2 : Mod (fun _ => False) w1 (w1.alloc (.cells #[.map (some nb)] 52)) := (Mod.refl _ _).alloc _
  have hsf := sortedFunc_c w1.heap.size nb c0 es N HM.out (fun b => (nd b).pt) (by omega) (w1.alloc (.cells #[.map (some nb)] 52)) (heap_alloc_new _ _) (hm2.at0 HB.out) (fun b hb => ⟨nd b, hm2.at0 (HI.out.2.1 b (HI.out.2.2.1.mem_iff.1 hb)), rfl⟩)
  have HS := Lib.hid hsf
  have HM2 := Lib.hid hm2
  clear hsf hm2
  go_wp2_with fail
  go_at_call 25
  refine HS.out.mono ?_
  rintro e w3 ⟨v, ys, rfl, hperm, hris, hown, hm⟩
  have hys : ys = L.map An.a := rising_unique (hperm.trans HI.out.2.2.1) hris HI.out.2.2.2
  subst hys
  have m3 := HM2.out.then0 hm
  obtain ⟨a3, c3, rfl, _⟩ := hown.at ptrT
  have HY := Lib.hid hown
  have hln : (L.map An.a).length = L.length := List.length_map _
  rw [hln]
  have HLN := Lib.hid hln
  have HM3 := Lib.hid m3
  clear hperm hris hown hm m3 kh hln
  go_wp2_with fail
  go_loopw [18, 4] (fun s18 s4 ws => ∃ i : Nat, i ≤ L.length ∧ s18 = .int .i64 i ∧ SlOwn ic 1 3 ws w3.heap.size s4 (outL nd (L.take i)) ∧ Mod (fun _ => False) w3 ws) (fun s18 _ _ => L.length - (intOf s18).toNat)
  case atStart => exact ⟨0, Nat.zero_le _, rfl, SlOwn.nil _ _, Mod.refl _ _⟩
  case round =>
    obtain ⟨i, hi, rfl, hO, hm⟩ := hrel
    by_cases hlt : i < L.length
    · obtain ⟨x, hx⟩ : ∃ x, L[i]? = some x := ⟨_, List.getElem?_eq_getElem hlt⟩
      obtain ⟨g1, cap, cur, hv, _, kg, _, _, hcur, _⟩ := own_row HY.out (fun e => by
        rw [List.map_eq_nil_iff] at e
        rw [e] at hlt
        cases hlt)
      rw [HLN.out] at hv
      cases hv
      have ci := hcur i x.a (by rw [List.getElem?_map, hx]; rfl)
      have hxL := List.mem_of_getElem? hx
      have k0 := hm.at0 (HM3.out.at0 (HI.out.2.1 x.a (List.mem_map.2 ⟨x, hxL, rfl⟩)))
      have hid0 : (nd x.a).id = x.id := (HI.out.1.nds x hxL).1
      unfold nrc at k0
      rw [hid0] at k0
      replace kg := hm.at0 kg
      have HX := Lib.hid hx
      have hwb : (nd x.a).wt ≤ 1000000000 := by
        obtain ⟨X', Y', hdec⟩ := List.append_of_mem hxL
        have h2 := HI.out.1.wts X' x Y' hdec
        have h3 := srcs_len X' x.ks
        have h4 := HI.out.1.kl x hxL
        have h7 : X'.length ≤ L.length := by rw [hdec]; simp
        have h8 : x.ks.length * (X'.length + 1) ≤ 1000 * 901 := Nat.mul_le_mul h4 (by omega)
        omega
      clear hx hxL hid0 hcur
      by_cases h0 : (nd x.a).wt = 0
      · have hf : outL nd (L.take (i + 1)) = outL nd (L.take i) ++ [x.id] := by
          rw [List.take_add_one, HX.out]
          unfold outL
          rw [List.filter_append, List.map_append]
          simp [h0]
        have HF := Lib.hid hf
        rw [h0] at k0
        have hll : (outL nd (L.take i)).length ≤ 1000 := by
          unfold outL
          rw [List.length_map]
          have h1 := List.length_filter_le (fun x : An => decide ((nd x.a).wt = 0)) (L.take i)
          rw [List.length_take] at h1
          omega
        have hbs := bsInt x.id wr
        have mal := (Mod.refl (fun _ => False) wr).alloc (.cells (ic x.id) 3)
        have hone := oneInt wr x.id
        obtain ⟨a4, c4, rfl, _⟩ := hO.at intT
        obtain ⟨v5, w5, hap, hO5, m5, hn5⟩ := SlOwn.append intT (q := [x.id]) (c := 1) (hO.mod0 mal) hone (by simp only [List.length_singleton]; omega) (by decide) (Nat.le_trans hm.size mal.size) 36
        have hap : (Builtin.append_ #[36, 36] 36 #[.slice a4 (outL nd (L.take i)).length c4, .slice (some ⟨wr.heap.size, 0, none⟩) 1 1]).run Try.prog _ = _ := hap
        have hol := hO.lt
        have mm5 : Mod (fun _ => False) w3 w5 := (hm.then0 mal).then m5 (fun z hz e => by have := (hol z e).1; omega)
        have HO5 := Lib.hid (And.intro hO5 mm5)
        clear hf h0 hll hol m5 hn5 mal hone hO5 mm5 hO
        generalize (outL nd (L.take i)).length = ol at *
        go_upto_region 9 with fail
        refine region_seq 8 rfl ?_
        simp only [List.range, List.range.loop]
        (refine sq_val (v := ?v1) (by simp only [List.getElem?_toArray, List.getElem?_cons_succ, List.getElem?_cons_zero]; rfl) ?hw1 ?hy1 ?hn1; (case hw1 => rfl); (case hy1 => (go_simp; (try with_reducible rfl))); (try simp only [Act.put, List.setIfInBounds_toArray, List.set_cons_zero, List.set_cons_succ]))
        (refine sq_val (v := ?v2) (by simp only [List.getElem?_toArray, List.getElem?_cons_succ, List.getElem?_cons_zero]; rfl) ?hw2 ?hy2 ?hn2; (case hw2 => rfl); (case hy2 => (go_simp; (try with_reducible rfl))); (try simp only [Act.put, List.setIfInBounds_toArray, List.set_cons_zero, List.set_cons_succ]))
        (refine sq_val (v := ?v3) (by simp only [List.getElem?_toArray, List.getElem?_cons_succ, List.getElem?_cons_zero]; rfl) ?hw3 ?hy3 ?hn3; (case hw3 => rfl); (case hy3 => (go_simp; (try with_reducible rfl))); (try simp only [Act.put, List.setIfInBounds_toArray, List.set_cons_zero, List.set_cons_succ]))
        (refine sq_val (v := ?v4) (by simp only [List.getElem?_toArray, List.getElem?_cons_succ, List.getElem?_cons_zero]; rfl) ?hw4 ?hy4 ?hn4; (case hw4 => rfl); (case hy4 => (go_simp; (try with_reducible rfl))); (try simp only [Act.put, List.setIfInBounds_toArray, List.set_cons_zero, List.set_cons_succ]))
        (refine sq_load (v := ?v5) (p := ?p5) (by simp only [List.getElem?_toArray, List.getElem?_cons_succ, List.getElem?_cons_zero]; rfl) ?hw5 rfl ?hx5 ?hy5 ?hn5; (case hw5 => rfl); (case hx5 => (simp only [Act.eval, Array.getD_eq_getD_getElem?, List.getElem?_toArray, List.getElem?_cons_succ, List.getElem?_cons_zero, Option.getD_some]; (try rfl))); (case hy5 => (go_simp; (try with_reducible rfl))); (try simp only [Act.put, List.setIfInBounds_toArray, List.set_cons_zero, List.set_cons_succ]))
        (refine sq_build (by simp only [List.getElem?_toArray, List.getElem?_cons_succ, List.getElem?_cons_zero]; rfl) ?hw6 rfl ?hx6 hbs ?hn6; (case hw6 => rfl); (case hx6 => (simp only [List.map_toArray, List.map_cons, List.map_nil, Act.eval, Array.getD_eq_getD_getElem?, List.getElem?_toArray, List.getElem?_cons_succ, List.getElem?_cons_zero, Option.getD_some]; (try rfl))); (try simp only [Act.put, List.setIfInBounds_toArray, List.set_cons_zero, List.set_cons_succ]))
        (refine sq_append (by simp only [List.getElem?_toArray, List.getElem?_cons_succ, List.getElem?_cons_zero]; rfl) ?hw7 rfl ?hx7 ?hz7 hap ?hn7; (case hw7 => rfl); (case hx7 => (simp only [Act.eval, Array.getD_eq_getD_getElem?, List.getElem?_toArray, List.getElem?_cons_succ, List.getElem?_cons_zero, Option.getD_some]; (try rfl))); (case hz7 => (simp only [Act.eval, Array.getD_eq_getD_getElem?, List.getElem?_toArray, List.getElem?_cons_succ, List.getElem?_cons_zero, Option.getD_some]; (try rfl))); (try simp only [Act.put, List.setIfInBounds_toArray, List.set_cons_zero, List.set_cons_succ]))
        (refine sq_val (v := ?v8) (by simp only [List.getElem?_toArray, List.getElem?_cons_succ, List.getElem?_cons_zero]; rfl) ?hw8 ?hy8 ?hn8; (case hw8 => rfl); (case hy8 => (go_simp; (try with_reducible rfl))); (try simp only [Act.put, List.setIfInBounds_toArray, List.set_cons_zero, List.set_cons_succ]))
        refine sq_nil ?_
        clear hap hbs
        go_wp2_with fail
        go_roundw
        case rel => exact ⟨i + 1, by omega, by go_num, by rw [HF.out]; exact HO5.out.1, HO5.out.2⟩
        case measure => simp [intOf]; omega
      · have hf : outL nd (L.take (i + 1)) = outL nd (L.take i) := by
          rw [List.take_add_one, HX.out]
          unfold outL
          rw [List.filter_append, List.map_append]
          simp [h0]
        have HF := Lib.hid hf
        have hd : (((nd x.a).wt : Int) == 0) = false := by
          rw [beq_eq_false_iff_ne]
          omega
        clear hf h0
        go_wp2_with fail
        go_roundw
        case rel => exact ⟨i + 1, by omega, by go_num, by rw [HF.out]; exact hO, hm⟩
        case measure => simp [intOf]; omega
    · obtain rfl : i = L.length := by omega
      rw [List.take_length] at hO
      obtain ⟨a, c, rfl, hcl, hsl, hbk, hfz⟩ := clip_own intT hO
      have HCL := Lib.hid hcl
      have HE := Lib.hid (And.intro hsl (And.intro hbk (And.intro hfz hm)))
      clear hO hcl hsl hbk hfz hm
      generalize hol : (outL nd L).length = ol at *
      have HOL := Lib.hid hol
      clear hol
      go_wp2_with fail
      go_at_call 29
      refine (clipI_c _ _ _ ol rfl HCL.out).mono ?_
      rintro e w5 ⟨rfl, rfl⟩
      go_wp2_with fail
      go_ret
      refine ⟨a, by rw [HOL.out]; rfl, HE.out.1, HE.out.2.2.1, fun z hz => ?_, HM3.out.then0 HE.out.2.2.2⟩
      have := (HE.out.2.1 z hz).1
      have := HM3.out.size
      omega
end Go.Proofs.Ytffcnnogkpdinaa
