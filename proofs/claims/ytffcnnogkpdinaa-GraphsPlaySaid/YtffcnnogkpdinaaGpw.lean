/- Graphs: the law GraphsPlay. -/
import Derived.Test.YtffcnnogkpdinaaGeq
namespace Go.Proofs.Ytffcnnogkpdinaa
open Go.RowKit
open Go.ChangeMaps (setBlock)
set_option linter.unusedSimpArgs false
set_option linter.unusedVariables false
def zActG : Array Value := #[.bool false, .int .i64 0, .slice none 0 0]
theorem ldActG (w : World) (b o : Nat) : (Instr.loadAt 44 (.pointer (some ⟨b, o, none⟩))).run Try.prog w =
      match w.heap[b]? with
      | some (.cells cs _ _) => if o + 3 ≤ cs.size then .ok (.agg (cs.extract o (o + 3))) w else farL Try.prog w 44 b o
      | _ => farL Try.prog w 44 b o := load_rule (d := _) Try.underlying44 rfl (by kernel_rfl) w b o
theorem stActG (w : World) (b o : Nat) (xs : Array Value) : (Instr.storeAt 44 (.pointer (some ⟨b, o, none⟩)) (.agg xs)).run Try.prog w =
      match w.heap[b]? with
      | some (.cells cs U (0, 0)) =>
        if o + 3 ≤ cs.size ∧ xs.size = 3 ∧ xs.all (·.oneCell') = true then .ok () (setBlock w b (.cells (if o = 0 ∧ 3 = cs.size then xs else wr cs o xs.toList) U (0, 0))) else farS Try.prog w 44 b o (.agg xs)
      | _ => farS Try.prog w 44 b o (.agg xs) := store_rule (by kernel_rfl) w b o xs
theorem wlActG (dst : Option Tmp) (x : Operand) (ty : TypeId) (pos : String) (after : Array Edge) (g : Option (Nat × Bool)) (a : Act) (w : World) (K : Act → World → Prop) (Q : Exit → Act → World → Prop) :
    Oper.wp Try.prog { dst := dst, op := .load 44 x, type := ty, pos := pos, after := after, guard := g } a w K Q =
      (match a.eval x with
      | .pointer (some ⟨b, o, none⟩) =>
        (match w.heap[b]? with
        | some (.cells cs _ _) => if o + 3 ≤ cs.size then K (a.put dst (.agg (cs.extract o (o + 3)))) w else farW Try.prog { dst := dst, op := .load 44 x, type := ty, pos := pos, after := after, guard := g } a w K Q
        | _ => farW Try.prog { dst := dst, op := .load 44 x, type := ty, pos := pos, after := after, guard := g } a w K Q)
      | _ => farW Try.prog { dst := dst, op := .load 44 x, type := ty, pos := pos, after := after, guard := g } a w K Q) := wp_load_rule (d := _) Try.underlying44 rfl (by kernel_rfl) dst x ty pos after g a w K Q
theorem alActG (w : World) : (Instr.alloc 44 true (.tuple #[])).run Try.prog w = .ok (.pointer (some ⟨w.heap.size, 0, none⟩)) (w.alloc (.cells zActG 44)) :=
  run_alloc_row (z := .agg zActG) (fun w => by kernel_rfl) w
theorem zActG_size : zActG.size = 3 := rfl
attribute [local go_sem ↓] wlActG ldActG stActG wlKey wlRole ldKey ldRole stKey stRole eqKey1 eqRole1
attribute [local go_sem] zActG_size zKey_size zRole_size kc_ext rc_size rc_key rc_all rc_s rc_w rc_s' rc_w' rc_one one_int one_bool one_ptr one_slice one_map kc_one kc_one0 cell_blk frozen_blk Value.cells eqMap neMap
/-- Both graphs, apart, and behind B. -/
structure PS (g p q : Nat) (L : List Nq) (TA TB : Nat → Prop) (B : Nat) (w : World) : Prop where
  a : RAt g q (rnsOf L) TA w
  b : RQ p L TB w
  la : ∀ i, TA i → B ≤ i
  lb : ∀ i, TB i → B ≤ i ∧ i < w.heap.size
  dj : ∀ i, TA i → ¬ TB i
theorem PS.len {g p q : Nat} {L : List Nq} {TA TB : Nat → Prop} {B : Nat} {w : World} (h : PS g p q L TA TB B w) : L.length ≤ q := by
  have := h.a.qb.2
  unfold rnsOf at this
  rwa [List.length_map] at this
theorem PS.mod {g p q : Nat} {L : List Nq} {TA TB : Nat → Prop} {B : Nat} {w w' : World} (h : PS g p q L TA TB B w) {M : Nat → Prop} (hm : Mod M w w') (h1 : ∀ i, TA i → ¬ M i) (h2 : ∀ i, TB i → ¬ M i) : PS g p q L TA TB B w' :=
  ⟨h.a.mod hm h1, (RQ.good p L).cl TB w w' h.b (hm.mono (fun i _ hi ht => h2 i ht hi)), h.la, fun i hi => ⟨(h.lb i hi).1, Nat.lt_of_lt_of_le (h.lb i hi).2 hm.size⟩, h.dj⟩
theorem PS.mod0 {g p q : Nat} {L : List Nq} {TA TB : Nat → Prop} {B : Nat} {w w' : World} (h : PS g p q L TA TB B w) (hm : Mod (fun _ => False) w w') : PS g p q L TA TB B w' := h.mod hm (fun _ _ h => h) (fun _ _ h => h)
theorem PS.next {g p q q' : Nat} {L L' : List Nq} {TA TA' TB TB' : Nat → Prop} {B : Nat} {w w7 w8 : World} (h : PS g p q L TA TB B w) (hA : RAt g q' (rnsOf L') TA' w7) (hAT : ∀ i, TA' i → TA i ∨ w.heap.size ≤ i) (s7 : w.heap.size ≤ w7.heap.size) (hB : RQ p L' TB' w8) (hm8 : Mod TB w7 w8) (hBT : ∀ i, TB' i → TB i ∨ w7.heap.size ≤ i) (hBl : ∀ i, TB' i → i < w8.heap.size) (hBw : B ≤ w.heap.size) :
    PS g p q' L' TA' TB' B w8 ∧ ∀ i, TA' i ∨ TB' i → (TA i ∨ TB i) ∨ w.heap.size ≤ i := by
  refine ⟨⟨hA.mod hm8 (fun i hi ht => ?_), hB, fun i hi => ?_, fun i hi => ⟨?_, hBl i hi⟩, fun i hi ht => ?_⟩, fun i hi => ?_⟩
  · rcases hAT i hi with h1 | h1
    · exact h.dj i h1 ht
    · have := (h.lb i ht).2; omega
  · rcases hAT i hi with h1 | h1
    · exact h.la i h1
    · omega
  · rcases hBT i hi with h1 | h1
    · exact (h.lb i h1).1
    · omega
  · have h3 := hA.2 i hi
    rcases hBT i ht with h2 | h2
    · rcases hAT i hi with h1 | h1
      · exact h.dj i h1 h2
      · have := (h.lb i h2).2; omega
    · omega
  · rcases hi with hi | hi
    · exact (hAT i hi).elim (fun h => .inl (.inl h)) .inr
    · exact (hBT i hi).elim (fun h => .inl (.inr h)) (fun h => .inr (by omega))
/-- A row of numbers that a call has made, of any capacity. -/
def RowI (l : List Int64) (v : Value) : Land := fun T w => ∃ a c, v = .slice a l.length c ∧ SlAt ic 1 w a l ∧ ∀ b o, a = some ⟨b, o, none⟩ → T b
theorem goodRowI (l : List Int64) (v : Value) : Good (RowI l v) where
  cl := fun T w w' ⟨a, c, e, h, ht⟩ hm => ⟨a, c, e, h.mod hm (fun b o e hn => hn (ht b o e)), ht⟩
  gr := fun T T' w hT ⟨a, c, e, h, ht⟩ => ⟨a, c, e, h, fun b o e => hT b (ht b o e)⟩
theorem qreadyI {p : Nat} {L : List Nq} {TB T : Nat → Prop} {w : World} (h : RQ p L TB w) (hL : L.length ≤ 900) (rl : List Int64) (hr : readyR (rnsOf L) = rl) : Calls Try.prog 20 #[ptrV p] w fun e w' => ∃ v, e = .returned v ∧ Mod (fun _ => False) w w' ∧ RowI rl v (Grow T w w') w' := by
  subst hr
  refine (qready_c h hL).mono ?_
  rintro e w' ⟨v, rfl, hO, hm⟩
  obtain ⟨a, c, rfl, hs, ha, _⟩ := hO.at intT
  exact ⟨_, rfl, hm, a, c, rfl, hs, fun b o e => .inr ⟨(ha _ e).1, (ha _ e).2.1⟩⟩
theorem sameI {w : World} {v : Value} {b : Option Addr} {l : List Int64} {T : Nat → Prop} (n c : Nat) (hn : l.length = n) (h1 : SlAt ic 1 w b l) (h2 : RowI l v T w) (hl : l.length ≤ 1000) :
    Calls Try.prog 12 #[.slice b n c, v] w fun e w' => ∃ v', e = .returned v' ∧ v' = .bool true ∧ Mod (fun _ => False) w w' := by
  obtain ⟨a, c2, rfl, h3, _⟩ := h2
  rw [hn]
  exact (sameE_c n c c2 hn h1 h3 hl).mono fun e w' h => ⟨_, h.1, rfl, h.2⟩
/-- A row that may be written: its block is there, and long enough. -/
def WAt (w : World) (a : Option Addr) (n : Nat) : Prop := ∀ k, k < n → ∃ b o C U u, a = some ⟨b, o, none⟩ ∧ w.heap[b]? = some (.cells C U (0, 0)) ∧ C[o + k]? = some u
theorem WAt.start {w : World} {a : Option Addr} {l : List Int64} (h : SlAt ic 1 w a l) (hf : Fz w a) : WAt w a l.length := fun k hk => by
  obtain ⟨b, o, C, U, fr, rfl, hk1, hv⟩ := int_at h (List.getElem?_eq_getElem hk)
  obtain ⟨C2, U2, hk2⟩ := hf b o rfl
  rw [hk1] at hk2
  cases hk2
  exact ⟨b, o, C, U, _, rfl, hk1, hv⟩
theorem WAt.mod0 {w w' : World} {a : Option Addr} {n : Nat} (h : WAt w a n) (hm : Mod (fun _ => False) w w') : WAt w' a n := fun k hk => by
  obtain ⟨b, o, C, U, u, e, h1, h2⟩ := h k hk
  exact ⟨b, o, C, U, u, e, hm.at0 h1, h2⟩
theorem WAt.step {w' : World} {b o n k : Nat} {C : Array Value} {U : TypeId} {v : Value} {w : World} (h : WAt w (some ⟨b, o, none⟩) n) (hk : w.heap[b]? = some (.cells C U (0, 0))) (hk' : w'.heap[b]? = some (.cells (C.setIfInBounds (o + k) v) U (0, 0))) : WAt w' (some ⟨b, o, none⟩) n := fun j hj => by
  obtain ⟨b', o', C', U', u, e, h1, h2⟩ := h j hj
  cases e
  rw [hk] at h1
  cases h1
  obtain ⟨h3, _⟩ := Array.getElem?_eq_some_iff.1 h2
  exact ⟨b, o, _, _, _, rfl, hk', Array.getElem?_eq_getElem (by rw [Array.size_setIfInBounds]; exact h3)⟩
set_option maxRecDepth 20000 in
set_option maxHeartbeats 6400000 in
theorem playLaw_c (a : Option Addr) (l : List Ac) (c : Nat) (w : World) (hl : SlAt acv 3 w a l) (hb : ∀ y, a = some y → y.block < w.heap.size ∨ l = []) (hlm : l.length ≤ 140737488355328) (hok : ∀ y ∈ l, AcOk w y) :
    Calls Try.prog 4 #[.slice a l.length c] w fun e w' => e = .returned (.bool true) ∧ Mod (fun _ => False) w w' := by
  have HL := Lib.hid hl
  have HB := Lib.hid hb
  have HOK := Lib.hid hok
  clear hl hb hok
  go_enter Try.func4, Try.ntmps4
  go_wp2_with fail
  go_at_call 14
  refine (great_c a l c _ HL.out (fun y hy => by have h1 := (HOK.out y hy).2.2.1; simp only [reachBytes] at h1; omega) hlm).mono ?_
  rintro e w1 ⟨gr, rfl, m1, HG⟩
  cases gr with
  | true =>
    go_wp2_with fail
    go_at_call 8
    refine (lives_c _).mono ?_
    rintro e w4 ⟨rfl, m4⟩
    go_wp2_with fail
    go_ret
    exact ⟨rfl, m1.then0 m4⟩
  | false =>
    have h300 := HG.out rfl
    have hl300 : l.length ≤ 300 := by omega
    have HR300 : Hid (rolesN l ≤ 300) := Lib.hid (by omega)
    clear HG hlm h300
    go_wp2_with fail
    go_at_call 9
    refine (newR_c _).mono ?_
    rintro e w2 ⟨g, rfl, TA0, hA, m2, hTA⟩
    go_wp2_with fail
    go_at_call 15
    refine (qnew_c _).mono ?_
    rintro e w3 ⟨rfl, rfl⟩
    obtain ⟨p, hp⟩ : ∃ p, w2.heap.size = p := ⟨_, rfl⟩
    have mq : Mod (fun _ => False) w2 (w2.alloc (.cells #[.slice none 0 0] 49)) := (Mod.refl _ _).alloc _
    have kq := heap_alloc_new w2 (.cells #[.slice none 0 0] 49)
    generalize w2.alloc (.cells #[.slice none 0 0] 49) = w3 at *
    rw [hp] at kq
    have HPS : Hid (PS g p 0 [] TA0 (fun i => i = p) w.heap.size w3) := Lib.hid
      ⟨hA.mod0 mq, ⟨_, kq, SlOwn.nil _ _, rfl, (fun g h => by cases h), (fun y hy => by cases hy)⟩, fun i hi => by have := hTA i hi; have := m1.size; omega,
        fun i hi => by subst hi; exact ⟨by have := m1.size; have := m2.size; omega, lt_size kq⟩, fun i hi e => by have := hA.2 i hi; omega⟩
    have mm := Lib.hid ((m1.then0 m2).then0 mq)
    rw [hp]
    clear hA m1 m2 hTA mq kq hp
    go_wp2_with fail
    go_loopw [5] (fun s5 ws => ∃ (i q : Nat) (L : List Nq) (TA TB : Nat → Prop), i ≤ l.length ∧ s5 = .int .i64 i ∧ Hid (PS g p q L TA TB w.heap.size ws) ∧ q ≤ i ∧ Hid (Mod (fun _ => False) w ws)) (fun s5 _ => l.length - (intOf s5).toNat)
    case atStart => exact ⟨0, 0, [], _, _, Nat.zero_le _, rfl, HPS, Nat.le_refl _, mm⟩
    case round =>
      clear HPS mm
      obtain ⟨i, q, L, TA, TB, hi, rfl, HPS, hqi, HM⟩ := hrel
      by_cases hlt : i < l.length
      · obtain ⟨y, hy⟩ : ∃ y, l[i]? = some y := ⟨_, List.getElem?_eq_getElem hlt⟩
        have hdi : decide ((i : Int) < (l.length : Int)) = true := decide_eq_true (by omega)
        obtain ⟨gl, o, C, U, fr, rfl, kl, he, hle⟩ := (HL.out.mod0 HM.out).block hy
        have hmem := List.mem_of_getElem? hy
        have HY : Hid (RolesAt w y.s.a y.s.l ∧ y.s.l.length ≤ 300) := Lib.hid ⟨(HOK.out y hmem).1, by have := rolesN_at hmem; have := HR300.out; omega⟩
        clear hy hmem
        obtain ⟨yp, yi, ⟨ya, yl, yc⟩⟩ := y
        simp only [acv, Sl.v] at he
        dsimp only at HY
        go_upto_region 8 with fail
        have Lkl := lt_size kl
        refine wp_pass0 (C := fun _ _ _ => False) (κ := fun i => [0, 0, 0, 1, 3, 4].getD i 0) [0, 1, 2, 3, 4, 5] (by kernel_rfl) (by kernel_rfl) (fun _ _ d _ _ h => by cases d <;> first | exact h | exact absurd h (hP _ _ _)) ?_
        (refine TD.val0 (v := ?v1) (by simp only [List.getElem?_toArray, List.getElem?_cons_succ, List.getElem?_cons_zero]; rfl) rfl ?hw1 (fun w1 => ?hy1) ?hn1; (case hw1 => rfl); (case hy1 => (go_simp; (try with_reducible rfl))); (try simp only [Act.put, List.setIfInBounds_toArray, List.set_cons_zero, List.set_cons_succ]))
        (refine TD.val0 (v := ?v2) (by simp only [List.getElem?_toArray, List.getElem?_cons_succ, List.getElem?_cons_zero]; rfl) rfl ?hw2 (fun w1 => ?hy2) ?hn2; (case hw2 => rfl); (case hy2 => (go_simp; (try with_reducible rfl))); (try simp only [Act.put, List.setIfInBounds_toArray, List.set_cons_zero, List.set_cons_succ]))
        (refine TD.val0 (v := ?v3) (by simp only [List.getElem?_toArray, List.getElem?_cons_succ, List.getElem?_cons_zero]; rfl) rfl ?hw3 (fun w1 => ?hy3) ?hn3; (case hw3 => rfl); (case hy3 => (go_simp; (try with_reducible rfl))); (try simp only [Act.put, List.setIfInBounds_toArray, List.set_cons_zero, List.set_cons_succ]))
        (refine TD.load (v := ?v4) (p := ?p4) (Mod.refl _ _) (by simp only [List.getElem?_toArray, List.getElem?_cons_succ, List.getElem?_cons_zero]; rfl) rfl ?hw4 rfl ?hx4 (fun wq hSq => ?hy4) ?hn4; (case hw4 => rfl); (case hx4 => (simp only [Act.eval, Array.getD_eq_getD_getElem?, List.getElem?_toArray, List.getElem?_cons_succ, List.getElem?_cons_zero, Option.getD_some]; (try rfl))); (case hy4 => (have klq := hSq.at kl (fun h => h); go_simp; (try with_reducible rfl))); (try simp only [Act.put, List.setIfInBounds_toArray, List.set_cons_zero, List.set_cons_succ]))
        (refine TD.allocB (by simp only [List.getElem?_toArray, List.getElem?_cons_succ, List.getElem?_cons_zero]; rfl) rfl ?hw5 rfl rfl alActG (fun p6 hp6 => ?hn5); (case hw5 => rfl); (try simp only [Act.put, List.setIfInBounds_toArray, List.set_cons_zero, List.set_cons_succ]))
        (refine TD.storeB (d := ?d6) (T := ?T6) (y := ?y6) (p := ?p6) (b := ?b6) (v := ?v6) (by simp only [List.getElem?_toArray, List.getElem?_cons_succ, List.getElem?_cons_zero]; rfl) rfl ?hw6 ?hd6 ?hop6 ?hev6 ?hx6 ?hb6 ?htag6 (fun w1 hb1 => ?hy6) ?hn6; (case hw6 => rfl); (case hd6 => rfl); (case hop6 => rfl); (case hev6 => (simp only [Act.eval, Array.getD_eq_getD_getElem?, List.getElem?_toArray, List.getElem?_cons_succ, List.getElem?_cons_zero, Option.getD_some]; (try rfl))); (case hx6 => (simp only [Act.eval, Array.getD_eq_getD_getElem?, List.getElem?_toArray, List.getElem?_cons_succ, List.getElem?_cons_zero, Option.getD_some]; (try rfl))); (case hb6 => first | exact Bx.set_same _ _ _ | (simp only [Bx.set_same]; rfl)); (case hy6 => (go_simp; (try first | with_reducible rfl | (rw [setCell_blk hb1]; rfl)))); (try simp only [Act.put, List.setIfInBounds_toArray, List.set_cons_zero, List.set_cons_succ]))
        refine TD.nil (fun w5 hr => ?_)
        have kl := hr.mod.at kl (fun h => h)
        have kp6 := hr.box p6 _ (by first | exact Bx.set_same _ _ _ | (simp only [Bx.set_same]; rfl)); dsimp only [Value.cells] at kp6; obtain ⟨gp6, kp6⟩ := kp6
        have m5 := HM.out.then0 hr.mod
        have HPS5 := Lib.hid (HPS.out.mod0 hr.mod)
        have HP6 : Hid (∀ j, TA j ∨ TB j → j < wr.heap.size) := Lib.hid (fun j hj => hj.elim (fun h => HPS.out.a.2 j h) (fun h => (HPS.out.lb j h).2))
        obtain ⟨v6, w6, hap, hO6, m6', _⟩ := SlOwn.append roleT (c := yc) (SlOwn.nil w5 w5.heap.size) (SlAt.mod0 HY.out.1 m5) (by have := HY.out.2; simp only [List.length_nil]; omega) (by decide) (Nat.le_refl _) 32
        rw [List.nil_append] at hO6
        have m6 : Mod (fun _ => False) w5 w6 := m6'.mono (fun _ _ e => by cases e)
        obtain ⟨ar, cr, rfl, hq6, har, _⟩ := hO6.at roleT
        have HO6 := Lib.hid hO6
        have HQ6 := Lib.hid (And.intro hq6 har)
        have HM6 := Lib.hid (m5.then0 m6)
        have HPS6 := Lib.hid (HPS5.out.mod0 m6)
        have HLP : Hid (wr.heap.size ≤ p6 ∧ p6 < w5.heap.size ∧ wr.heap.size ≤ w5.heap.size) := Lib.hid ⟨by omega, lt_size kp6, hr.mod.size⟩
        clear hr m5 m6' hO6 hq6 har kl he hle HPS5
        go_upto_region 9 with fail
        refine region_seq 4 rfl ?_
        simp only [List.range, List.range.loop]
        (refine sq_val (v := ?v7) (by simp only [List.getElem?_toArray, List.getElem?_cons_succ, List.getElem?_cons_zero]; rfl) ?hw7 ?hy7 ?hn7; (case hw7 => rfl); (case hy7 => (go_simp; (try with_reducible rfl))); (try simp only [Act.put, List.setIfInBounds_toArray, List.set_cons_zero, List.set_cons_succ]))
        (refine sq_load (v := ?v8) (p := ?p8) (by simp only [List.getElem?_toArray, List.getElem?_cons_succ, List.getElem?_cons_zero]; rfl) ?hw8 rfl ?hx8 ?hy8 ?hn8; (case hw8 => rfl); (case hx8 => (simp only [Act.eval, Array.getD_eq_getD_getElem?, List.getElem?_toArray, List.getElem?_cons_succ, List.getElem?_cons_zero, Option.getD_some]; (try rfl))); (case hy8 => (go_simp; (try with_reducible rfl))); (try simp only [Act.put, List.setIfInBounds_toArray, List.set_cons_zero, List.set_cons_succ]))
        (refine sq_append (by simp only [List.getElem?_toArray, List.getElem?_cons_succ, List.getElem?_cons_zero]; rfl) ?hw9 rfl ?hx9 ?hz9 hap ?hn9; (case hw9 => rfl); (case hx9 => (simp only [Act.eval, Array.getD_eq_getD_getElem?, List.getElem?_toArray, List.getElem?_cons_succ, List.getElem?_cons_zero, Option.getD_some]; (try rfl))); (case hz9 => (simp only [Act.eval, Array.getD_eq_getD_getElem?, List.getElem?_toArray, List.getElem?_cons_succ, List.getElem?_cons_zero, Option.getD_some]; (try rfl))); (try simp only [Act.put, List.setIfInBounds_toArray, List.set_cons_zero, List.set_cons_succ]))
        (refine sq_val (v := ?v10) (by simp only [List.getElem?_toArray, List.getElem?_cons_succ, List.getElem?_cons_zero]; rfl) ?hw10 ?hy10 ?hn10; (case hw10 => rfl); (case hy10 => (go_simp; (try with_reducible rfl))); (try simp only [Act.put, List.setIfInBounds_toArray, List.set_cons_zero, List.set_cons_succ]))
        refine sq_nil ?_
        clear hap
        have kp6 := m6.at0 kp6
        have HSZ : Hid (w5.heap.size ≤ w6.heap.size) := Lib.hid m6.size
        clear m6
        go_upto_if 37 with fail
        go_cut [8, 9] from 38 to 56 (fun s8 s9 wx => ∃ (ev : Int) (q' : Nat) (L' : List Nq) (TA' TB' : Nat → Prop), s8 = .int .i64 ev ∧ s9 = .int .i64 ev ∧ Hid (PS g p q' L' TA' TB' w.heap.size wx) ∧ q' ≤ i + 1 ∧ SlOwn rcr 34 31 wx w5.heap.size (.slice ar yl.length cr) yl ∧ Hid (∀ j, TA' j ∨ TB' j → (Value.slice ar yl.length cr).ownBlock ≠ some j ∧ j ≠ p6) ∧ wx.heap[p6]? = some (.cells #[.bool yp, .int .i64 yi.toInt, .slice ya yl.length yc] 44 (0, 0)) ∧ Hid (Mod (fun _ => False) w wx))
        case first =>
          have HN6 : Hid (∀ j, TA j ∨ TB j → (Value.slice ar yl.length cr).ownBlock ≠ some j ∧ j ≠ p6) := Lib.hid (fun j hj => by
            have h1 := HP6.out j hj
            have h2 := HLP.out
            refine ⟨fun e => ?_, by omega⟩
            have h3 := (HO6.out.lt j e).1
            omega)
          have hs56 : w5.heap.size ≤ w6.heap.size := HSZ.out
          have HBW : Hid (w.heap.size ≤ w6.heap.size) := Lib.hid HM6.out.size
          have hL9 : L.length ≤ 900 := by have := HPS6.out.len; omega
          cases yp with
          | true =>
            go_wp2_with fail
            go_at_call 16
            refine (popA_c HPS6.out.a yi).mono ?_
            rintro e w7 ⟨ev, K', hP, rfl, hA7, hm7⟩
            have kp7 := hm7.at kp6 (fun h => (HN6.out _ (.inl h)).2 rfl)
            have hB7 : RQ p L TB w7 := (RQ.good p L).cl TB w6 w7 HPS6.out.b (hm7.mono (fun i _ hi ht => HPS6.out.dj i hi ht))
            have HX7 := Lib.hid (And.intro hA7 (And.intro hm7 (And.intro hB7 hP)))
            clear hA7 hm7 hB7 hP kp6
            go_wp2_with fail
            go_at_call 17
            refine (popQ_c HX7.out.2.2.1 (fun i hi => Nat.lt_of_lt_of_le (HPS6.out.lb i hi).2 HX7.out.2.1.size) hL9 HPS6.out.a.ids yi HX7.out.2.2.2).mono ?_
            rintro e w8 ⟨rfl, L', TB', hL', hB8, hm8, hT1, hT2⟩
            obtain ⟨hPS8, hN8⟩ := HPS6.out.next (L' := L') (by rw [hL']; exact HX7.out.1) (fun i hi => .inl hi) HX7.out.2.1.size hB8 hm8 hT1 hT2 HBW.out
            have kp8 := hm8.at kp7 (fun h => (HN6.out _ (.inr h)).2 rfl)
            have hO8 := (HO6.out.mod HX7.out.2.1 (fun b hb h => (HN6.out _ (.inl h)).1 hb)).mod hm8 (fun b hb h => (HN6.out _ (.inr h)).1 hb)
            have HN8 : Hid (∀ j, TA j ∨ TB' j → (Value.slice ar yl.length cr).ownBlock ≠ some j ∧ j ≠ p6) := Lib.hid (fun j hj => by
              rcases hN8 j hj with h | h
              · exact HN6.out j h
              · have h2 := HLP.out
                refine ⟨fun e => ?_, by omega⟩
                have h3 := (HO6.out.lt j e).2
                omega)
            have HM8 : Hid (Mod (fun _ => False) w w8) := Lib.hid ((HM6.out.then HX7.out.2.1 (fun i hi h => by have := HPS6.out.la i h; omega)).then hm8 (fun i hi h => by have := (HPS6.out.lb i h).1; omega))
            have HP8 := Lib.hid hPS8
            have HO8 := Lib.hid hO8
            clear hL' hB8 hm8 hT1 hT2 hPS8 hN8 kp7 hO8
            go_wp2_with fail
            go_meet
            exact ⟨ev, q, L', TA, TB', rfl, rfl, HP8, by omega, HO8.out, HN8, kp8, HM8⟩
          | false =>
            have hq9 : q < 900 := by omega
            go_wp2_with fail
            go_at_call 10
            refine (putA2_c HPS6.out.a hq9 yi ar yl cr HQ6.out.1 (by have := HY.out.2; omega) (fun _ b o e h => by
              have h1 := (HQ6.out.2 _ e).2.2
              exact (HN6.out b (.inl h)).1 h1)).mono ?_
            rintro e w7 ⟨ev, K', hP, rfl, q', TA', hq', hA7, hm7, hTA⟩
            have kp7 := hm7.at kp6 (fun h => (HN6.out _ (.inl h)).2 rfl)
            have hB7 : RQ p L TB w7 := (RQ.good p L).cl TB w6 w7 HPS6.out.b (hm7.mono (fun i _ hi ht => HPS6.out.dj i hi ht))
            have HM7 : Hid (Mod (fun _ => False) w w7) := Lib.hid (HM6.out.then hm7 (fun i hi h => by have := HPS6.out.la i h; omega))
            have HX7 := Lib.hid (And.intro hA7 (And.intro hm7 (And.intro hB7 (And.intro hP hTA))))
            clear hA7 hm7 hB7 hP kp6 hTA
            go_wp2_with fail
            go_at_call 18
            refine (putQ_c HX7.out.2.2.1 (fun i hi => Nat.lt_of_lt_of_le (HPS6.out.lb i hi).2 HX7.out.2.1.size) hL9 yi ya yl yc (SlAt.mod0 HY.out.1 HM7.out) (by have := HY.out.2; omega) HX7.out.2.2.2.1).mono ?_
            rintro e w8 ⟨rfl, L', TB', hL', hLl, hB8, hm8, hT1, hT2⟩
            obtain ⟨hPS8, hN8⟩ := HPS6.out.next (L' := L') (by rw [hL']; exact HX7.out.1) HX7.out.2.2.2.2 HX7.out.2.1.size hB8 hm8 hT1 hT2 HBW.out
            have kp8 := hm8.at kp7 (fun h => (HN6.out _ (.inr h)).2 rfl)
            have hO8 := (HO6.out.mod HX7.out.2.1 (fun b hb h => (HN6.out _ (.inl h)).1 hb)).mod hm8 (fun b hb h => (HN6.out _ (.inr h)).1 hb)
            have HN8 : Hid (∀ j, TA' j ∨ TB' j → (Value.slice ar yl.length cr).ownBlock ≠ some j ∧ j ≠ p6) := Lib.hid (fun j hj => by
              rcases hN8 j hj with h | h
              · exact HN6.out j h
              · have h2 := HLP.out
                refine ⟨fun e => ?_, by omega⟩
                have h3 := (HO6.out.lt j e).2
                omega)
            have HM8 : Hid (Mod (fun _ => False) w w8) := Lib.hid (HM7.out.then hm8 (fun i hi h => by have := (HPS6.out.lb i h).1; omega))
            have HP8 := Lib.hid hPS8
            have HO8 := Lib.hid hO8
            clear hL' hLl hB8 hm8 hT1 hT2 hPS8 hN8 kp7 hO8
            go_wp2_with fail
            go_meet
            exact ⟨ev, q', L', TA', TB', rfl, rfl, HP8, by omega, HO8.out, HN8, kp8, HM8⟩
        case rest =>
          clear kp6 hqi
          have hy300 : yl.length ≤ 300 := HY.out.2
          obtain ⟨ev, q', L', TA', TB', rfl, rfl, HP8, hq8, hO8, HN8, kp8, HM8⟩ := hcut
          have HO8 := Lib.hid hO8
          have hol : Hid (∀ j, (Value.slice ar yl.length cr).ownBlock = some j → w5.heap.size ≤ j ∧ w.heap.size ≤ j) := Lib.hid (fun j e => ⟨(HO8.out.lt j e).1, by have h1 := (HO8.out.lt j e).1; have h2 := HLP.out.2.2; have h3 := HM.out.size; omega⟩)
          clear hO8 HQ6 HPS6 HM6 HO6 HPS HP6
          obtain ⟨w8, rfl⟩ : ∃ x : World, x = wc := ⟨_, rfl⟩
          go_wp2_with fail
          go_loopw [10] (fun s10 wk => ∃ k : Nat, k ≤ yl.length ∧ s10 = .int .i64 k ∧ RFrom wk ar yl k ∧ Mod (fun j => (Value.slice ar yl.length cr).ownBlock = some j) w8 wk) (fun s10 _ => yl.length - (intOf s10).toNat)
          case atStart => exact ⟨0, by omega, rfl, RFrom.start HO8.out, Mod.refl _ _⟩
          case round =>
            obtain ⟨k, hk, rfl, hRF, m9⟩ := hrel
            have mm9 := HM8.out.then m9 (fun j hj e => by have := (hol.out j e).2; omega)
            have kp9 := m9.at kp8 (fun e => by have h1 := (hol.out _ e).1; have h2 := HLP.out.2.1; omega)
            by_cases hkq : k < yl.length
            · obtain ⟨x, hx⟩ : ∃ x, yl[k]? = some x := ⟨_, List.getElem?_eq_getElem hkq⟩
              obtain ⟨g1, C1, rfl, kr, her, hsr⟩ := hRF k x (Nat.le_refl _) hx
              obtain ⟨g2, o2, C2, U2, fr2, rfl, kx2, hex, hle2⟩ := (SlAt.mod0 HY.out.1 mm9).block hx
              obtain ⟨b0, hb0⟩ := first_byte her
              have hpg : p6 < g1 := by have h1 := (hol.out g1 rfl).1; have h2 := HLP.out.2.1; omega
              have HRF := Lib.hid hRF
              have heqx := eqRole1 x
              have hdk : decide ((k : Int) < (yl.length : Int)) = true := decide_eq_true (by omega)
              clear hRF hx
              go_upto_region 20 with fail
              have Lkr := lt_size kr
              have Lkp9 := lt_size kp9
              have Lkx2 := lt_size kx2
              refine wp_pass (C := fun _ _ _ => False) (κ := fun i => [0, 0, 0, 1, 0, 1, 0, 0, 1, 0].getD i 0) [0, 1, 2, 3, 4, 5, 6, 7, 8, 9] (by kernel_rfl) (by kernel_rfl) (fun _ _ d _ _ h => by cases d <;> first | exact h | exact absurd h (hP _ _ _)) ?_
              (refine TD.val0 (v := ?v11) (by simp only [List.getElem?_toArray, List.getElem?_cons_succ, List.getElem?_cons_zero]; rfl) rfl ?hw11 (fun w1 => ?hy11) ?hn11; (case hw11 => rfl); (case hy11 => (go_simp; (try with_reducible rfl))); (try simp only [Act.put, List.setIfInBounds_toArray, List.set_cons_zero, List.set_cons_succ]))
              (refine TD.val0 (v := ?v12) (by simp only [List.getElem?_toArray, List.getElem?_cons_succ, List.getElem?_cons_zero]; rfl) rfl ?hw12 (fun w1 => ?hy12) ?hn12; (case hw12 => rfl); (case hy12 => (go_simp; (try with_reducible rfl))); (try simp only [Act.put, List.setIfInBounds_toArray, List.set_cons_zero, List.set_cons_succ]))
              (refine TD.val0 (v := ?v13) (by simp only [List.getElem?_toArray, List.getElem?_cons_succ, List.getElem?_cons_zero]; rfl) rfl ?hw13 (fun w1 => ?hy13) ?hn13; (case hw13 => rfl); (case hy13 => (go_simp; (try with_reducible rfl))); (try simp only [Act.put, List.setIfInBounds_toArray, List.set_cons_zero, List.set_cons_succ]))
              (refine TD.load (v := ?v14) (p := ?p14) (Mod.refl _ _) (by simp only [List.getElem?_toArray, List.getElem?_cons_succ, List.getElem?_cons_zero]; rfl) rfl ?hw14 rfl ?hx14 (fun wq hSq => ?hy14) ?hn14; (case hw14 => rfl); (case hx14 => (simp only [Act.eval, Array.getD_eq_getD_getElem?, List.getElem?_toArray, List.getElem?_cons_succ, List.getElem?_cons_zero, Option.getD_some]; (try rfl))); (case hy14 => (have krq := hSq.at kr (fun h => h); have kp9q := hSq.at kp9 (fun h => h); have kx2q := hSq.at kx2 (fun h => h); go_simp; (try with_reducible rfl))); (try simp only [Act.put, List.setIfInBounds_toArray, List.set_cons_zero, List.set_cons_succ]))
              (refine TD.val0 (v := ?v15) (by simp only [List.getElem?_toArray, List.getElem?_cons_succ, List.getElem?_cons_zero]; rfl) rfl ?hw15 (fun w1 => ?hy15) ?hn15; (case hw15 => rfl); (case hy15 => (go_simp; (try with_reducible rfl))); (try simp only [Act.put, List.setIfInBounds_toArray, List.set_cons_zero, List.set_cons_succ]))
              (refine TD.load (v := ?v16) (p := ?p16) (Mod.refl _ _) (by simp only [List.getElem?_toArray, List.getElem?_cons_succ, List.getElem?_cons_zero]; rfl) rfl ?hw16 rfl ?hx16 (fun wq hSq => ?hy16) ?hn16; (case hw16 => rfl); (case hx16 => (simp only [Act.eval, Array.getD_eq_getD_getElem?, List.getElem?_toArray, List.getElem?_cons_succ, List.getElem?_cons_zero, Option.getD_some]; (try rfl))); (case hy16 => (have krq := hSq.at kr (fun h => h); have kp9q := hSq.at kp9 (fun h => h); have kx2q := hSq.at kx2 (fun h => h); go_simp; (try with_reducible rfl))); (try simp only [Act.put, List.setIfInBounds_toArray, List.set_cons_zero, List.set_cons_succ]))
              (refine TD.val0 (v := ?v17) (by simp only [List.getElem?_toArray, List.getElem?_cons_succ, List.getElem?_cons_zero]; rfl) rfl ?hw17 (fun w1 => ?hy17) ?hn17; (case hw17 => rfl); (case hy17 => (go_simp; (try with_reducible rfl))); (try simp only [Act.put, List.setIfInBounds_toArray, List.set_cons_zero, List.set_cons_succ]))
              (refine TD.val0 (v := ?v18) (by simp only [List.getElem?_toArray, List.getElem?_cons_succ, List.getElem?_cons_zero]; rfl) rfl ?hw18 (fun w1 => ?hy18) ?hn18; (case hw18 => rfl); (case hy18 => (go_simp; (try with_reducible rfl))); (try simp only [Act.put, List.setIfInBounds_toArray, List.set_cons_zero, List.set_cons_succ]))
              (refine TD.load (v := ?v19) (p := ?p19) (Mod.refl _ _) (by simp only [List.getElem?_toArray, List.getElem?_cons_succ, List.getElem?_cons_zero]; rfl) rfl ?hw19 rfl ?hx19 (fun wq hSq => ?hy19) ?hn19; (case hw19 => rfl); (case hx19 => (simp only [Act.eval, Array.getD_eq_getD_getElem?, List.getElem?_toArray, List.getElem?_cons_succ, List.getElem?_cons_zero, Option.getD_some]; (try rfl))); (case hy19 => (have krq := hSq.at kr (fun h => h); have kp9q := hSq.at kp9 (fun h => h); have kx2q := hSq.at kx2 (fun h => h); go_simp; (try with_reducible rfl))); (try simp only [Act.put, List.setIfInBounds_toArray, List.set_cons_zero, List.set_cons_succ]))
              (refine TD.val0 (v := ?v20) (by simp only [List.getElem?_toArray, List.getElem?_cons_succ, List.getElem?_cons_zero]; rfl) rfl ?hw20 (fun w1 => ?hy20) ?hn20; (case hw20 => rfl); (case hy20 => (go_simp; (try with_reducible rfl))); (try simp only [Act.put, List.setIfInBounds_toArray, List.set_cons_zero, List.set_cons_succ]))
              refine TD.nil (fun w10 hr => ?_)
              have kr := hr.mod.at kr (fun h => h)
              have kp9 := hr.mod.at kp9 (fun h => h)
              have kx2 := hr.mod.at kx2 (fun h => h)
              have m10 := m9.then0 hr.mod
              have HRF10 := Lib.hid (HRF.out.mod0 hr.mod)
              have KR := Lib.hid kr
              clear HRF hr
              go_upto_region 22 with fail
              have Lkr := lt_size kr
              have Lkp9 := lt_size kp9
              refine wp_pass (C := fun _ _ _ => False) (κ := fun i => [0, 0, 0, 0, 0, 1, 0, 0, 0, 0, 5].getD i 0) [0, 1, 2, 3, 4, 5, 6, 7, 8, 9, 10] (by kernel_rfl) (by kernel_rfl) (fun _ _ d _ _ h => by cases d <;> first | exact h | exact absurd h (hP _ _ _)) ?_
              (refine TD.val0 (v := ?v21) (by simp only [List.getElem?_toArray, List.getElem?_cons_succ, List.getElem?_cons_zero]; rfl) rfl ?hw21 (fun w1 => ?hy21) ?hn21; (case hw21 => rfl); (case hy21 => (go_simp; (try with_reducible rfl))); (try simp only [Act.put, List.setIfInBounds_toArray, List.set_cons_zero, List.set_cons_succ]))
              (refine TD.val0 (v := ?v22) (by simp only [List.getElem?_toArray, List.getElem?_cons_succ, List.getElem?_cons_zero]; rfl) rfl ?hw22 (fun w1 => ?hy22) ?hn22; (case hw22 => rfl); (case hy22 => (go_simp; (try with_reducible rfl))); (try simp only [Act.put, List.setIfInBounds_toArray, List.set_cons_zero, List.set_cons_succ]))
              (refine TD.val0 (v := ?v23) (by simp only [List.getElem?_toArray, List.getElem?_cons_succ, List.getElem?_cons_zero]; rfl) rfl ?hw23 (fun w1 => ?hy23) ?hn23; (case hw23 => rfl); (case hy23 => (go_simp; (try with_reducible rfl))); (try simp only [Act.put, List.setIfInBounds_toArray, List.set_cons_zero, List.set_cons_succ]))
              (refine TD.val0 (v := ?v24) (by simp only [List.getElem?_toArray, List.getElem?_cons_succ, List.getElem?_cons_zero]; rfl) rfl ?hw24 (fun w1 => ?hy24) ?hn24; (case hw24 => rfl); (case hy24 => (go_simp; (try with_reducible rfl))); (try simp only [Act.put, List.setIfInBounds_toArray, List.set_cons_zero, List.set_cons_succ]))
              (refine TD.val0 (v := ?v25) (by simp only [List.getElem?_toArray, List.getElem?_cons_succ, List.getElem?_cons_zero]; rfl) rfl ?hw25 (fun w1 => ?hy25) ?hn25; (case hw25 => rfl); (case hy25 => (go_simp; (try with_reducible rfl))); (try simp only [Act.put, List.setIfInBounds_toArray, List.set_cons_zero, List.set_cons_succ]))
              (refine TD.load (v := ?v26) (p := ?p26) (Mod.refl _ _) (by simp only [List.getElem?_toArray, List.getElem?_cons_succ, List.getElem?_cons_zero]; rfl) rfl ?hw26 rfl ?hx26 (fun wq hSq => ?hy26) ?hn26; (case hw26 => rfl); (case hx26 => (simp only [Act.eval, Array.getD_eq_getD_getElem?, List.getElem?_toArray, List.getElem?_cons_succ, List.getElem?_cons_zero, Option.getD_some]; (try rfl))); (case hy26 => (have krq := hSq.at kr (fun h => h); have kp9q := hSq.at kp9 (fun h => h); go_simp; (try with_reducible rfl))); (try simp only [Act.put, List.setIfInBounds_toArray, List.set_cons_zero, List.set_cons_succ]))
              (refine TD.val0 (v := ?v27) (by simp only [List.getElem?_toArray, List.getElem?_cons_succ, List.getElem?_cons_zero]; rfl) rfl ?hw27 (fun w1 => ?hy27) ?hn27; (case hw27 => rfl); (case hy27 => (go_simp; (try with_reducible rfl))); (try simp only [Act.put, List.setIfInBounds_toArray, List.set_cons_zero, List.set_cons_succ]))
              (refine TD.val0 (v := ?v28) (by simp only [List.getElem?_toArray, List.getElem?_cons_succ, List.getElem?_cons_zero]; rfl) rfl ?hw28 (fun w1 => ?hy28) ?hn28; (case hw28 => rfl); (case hy28 => (go_simp; (try with_reducible rfl))); (try simp only [Act.put, List.setIfInBounds_toArray, List.set_cons_zero, List.set_cons_succ]))
              (refine TD.val0 (v := ?v29) (by simp only [List.getElem?_toArray, List.getElem?_cons_succ, List.getElem?_cons_zero]; rfl) rfl ?hw29 (fun w1 => ?hy29) ?hn29; (case hw29 => rfl); (case hy29 => (go_simp; (try with_reducible rfl))); (try simp only [Act.put, List.setIfInBounds_toArray, List.set_cons_zero, List.set_cons_succ]))
              (refine TD.val0 (v := ?v30) (by simp only [List.getElem?_toArray, List.getElem?_cons_succ, List.getElem?_cons_zero]; rfl) rfl ?hw30 (fun w1 => ?hy30) ?hn30; (case hw30 => rfl); (case hy30 => (go_simp; (try with_reducible rfl))); (try simp only [Act.put, List.setIfInBounds_toArray, List.set_cons_zero, List.set_cons_succ]))
              refine TD.eff (by simp only [List.getElem?_toArray, List.getElem?_cons_succ, List.getElem?_cons_zero]; rfl) rfl (fun wE hr => ?_)
              have kr := hr.mod.at0 kr
              have kp9 := hr.mod.at0 kp9
              have mE := hr.mod
              (refine eff_store (X := ?X31) (Y := ?Y31) (w' := ?w31) (by simp only [List.getElem?_toArray, List.getElem?_cons_succ, List.getElem?_cons_zero]; rfl) ?hw31 rfl ?hx31 ?hz31 ?hy31 ?hn31; (case hw31 => rfl); (case hx31 => (simp only [Act.eval, Array.getD_eq_getD_getElem?, List.getElem?_toArray, List.getElem?_cons_succ, List.getElem?_cons_zero, Option.getD_some]; (try rfl))); (case hz31 => (simp only [Act.eval, Array.getD_eq_getD_getElem?, List.getElem?_toArray, List.getElem?_cons_succ, List.getElem?_cons_zero, Option.getD_some]; (try rfl))); (case hy31 => (go_simp; (try with_reducible rfl))))
              (first | refine TE.nil_set kr (fun w11 kr mS => ?_) | refine TE.nil_setCell kr (fun w11 kr mS => ?_))
              (try simp only [Array.setIfInBounds, List.setIfInBounds_toArray, List.set_cons_zero, List.set_cons_succ] at kr)
              have kp9 := mS.at_ne kp9 (by omega)
              have m11 : Mod (fun j => (Value.slice (some ⟨g1, 0, none⟩) yl.length cr).ownBlock = some j) w8 w11 := (m10.then0 mE).then mS (fun _ _ e => by subst e; rfl)
              clear mE mS m10 m9
              have hw33 : (C1.setIfInBounds (k * 34) (Value.int IntKind.u8 (IntKind.u8.wrap ((b0.toNat : Int) + 1))))[k * 34 + 33]? = some (.bool x.w) := by
                rw [Array.getElem?_setIfInBounds_ne (by omega)]
                exact ext_w her
              replace kr : w11.heap[g1]? = some (.cells (C1.setIfInBounds (k * 34) (Value.int IntKind.u8 (IntKind.u8.wrap ((b0.toNat : Int) + 1)))) 31 (0, 0)) := kr
              generalize hC3 : C1.setIfInBounds (k * 34) (Value.int IntKind.u8 (IntKind.u8.wrap ((b0.toNat : Int) + 1))) = C3 at kr hw33
              have HC3 := Lib.hid hC3
              clear hC3
              go_upto_region 23 with fail
              have Lkr := lt_size kr
              have Lkp9 := lt_size kp9
              refine wp_pass0 (C := fun _ _ _ => False) (κ := fun i => [0, 0, 0, 0, 5].getD i 0) [0, 1, 2, 3, 4] (by kernel_rfl) (by kernel_rfl) (fun _ _ d _ _ h => by cases d <;> first | exact h | exact absurd h (hP _ _ _)) ?_
              (refine TD.val0 (v := ?v32) (by simp only [List.getElem?_toArray, List.getElem?_cons_succ, List.getElem?_cons_zero]; rfl) rfl ?hw32 (fun w1 => ?hy32) ?hn32; (case hw32 => rfl); (case hy32 => (go_simp; (try with_reducible rfl))); (try simp only [Act.put, List.setIfInBounds_toArray, List.set_cons_zero, List.set_cons_succ]))
              (refine TD.val0 (v := ?v33) (by simp only [List.getElem?_toArray, List.getElem?_cons_succ, List.getElem?_cons_zero]; rfl) rfl ?hw33 (fun w1 => ?hy33) ?hn33; (case hw33 => rfl); (case hy33 => (go_simp; (try with_reducible rfl))); (try simp only [Act.put, List.setIfInBounds_toArray, List.set_cons_zero, List.set_cons_succ]))
              (refine TD.val0 (v := ?v34) (by simp only [List.getElem?_toArray, List.getElem?_cons_succ, List.getElem?_cons_zero]; rfl) rfl ?hw34 (fun w1 => ?hy34) ?hn34; (case hw34 => rfl); (case hy34 => (go_simp; (try with_reducible rfl))); (try simp only [Act.put, List.setIfInBounds_toArray, List.set_cons_zero, List.set_cons_succ]))
              (refine TD.val0 (v := ?v35) (by simp only [List.getElem?_toArray, List.getElem?_cons_succ, List.getElem?_cons_zero]; rfl) rfl ?hw35 (fun w1 => ?hy35) ?hn35; (case hw35 => rfl); (case hy35 => (go_simp; (try with_reducible rfl))); (try simp only [Act.put, List.setIfInBounds_toArray, List.set_cons_zero, List.set_cons_succ]))
              refine TD.eff (by simp only [List.getElem?_toArray, List.getElem?_cons_succ, List.getElem?_cons_zero]; rfl) rfl (fun wE hr => ?_)
              have kr := hr.mod.at0 kr
              have kp9 := hr.mod.at0 kp9
              have mE := hr.mod
              (refine eff_store (X := ?X36) (Y := ?Y36) (w' := ?w36) (by simp only [List.getElem?_toArray, List.getElem?_cons_succ, List.getElem?_cons_zero]; rfl) ?hw36 rfl ?hx36 ?hz36 ?hy36 ?hn36; (case hw36 => rfl); (case hx36 => (simp only [Act.eval, Array.getD_eq_getD_getElem?, List.getElem?_toArray, List.getElem?_cons_succ, List.getElem?_cons_zero, Option.getD_some]; (try rfl))); (case hz36 => (simp only [Act.eval, Array.getD_eq_getD_getElem?, List.getElem?_toArray, List.getElem?_cons_succ, List.getElem?_cons_zero, Option.getD_some]; (try rfl))); (case hy36 => (go_simp; (try with_reducible rfl))))
              (first | refine TE.nil_set kr (fun w12 kr mS => ?_) | refine TE.nil_setCell kr (fun w12 kr mS => ?_))
              (try simp only [Array.setIfInBounds, List.setIfInBounds_toArray, List.set_cons_zero, List.set_cons_succ] at kr)
              have kp9 := mS.at_ne kp9 (by omega)
              have m12 : Mod (fun j => (Value.slice (some ⟨g1, 0, none⟩) yl.length cr).ownBlock = some j) w8 w12 := (m11.then0 mE).then mS (fun _ _ e => by subst e; rfl)
              have HRF12 := Lib.hid (RFrom.step2 (v := Value.int IntKind.u8 (IntKind.u8.wrap ((b0.toNat : Int) + 1))) (v2 := .bool true) HRF10.out KR.out (by rw [HC3.out]; exact kr))
              clear HRF10
              go_wp2_with fail
              go_roundw
              case rel => exact ⟨k + 1, by omega, by go_num, HRF12.out, m12⟩
              case measure => simp [intOf]; omega
            · obtain rfl : k = yl.length := by omega
              have hdk : decide ((yl.length : Int) < (yl.length : Int)) = false := decide_eq_false (by omega)
              have HP9 := Lib.hid (HP8.out.mod m9 (fun i hi h => (HN8.out i (.inl hi)).1 h) (fun i hi h => (HN8.out i (.inr hi)).1 h))
              have HM9 := Lib.hid mm9
              have hq9 : q' ≤ 301 := by omega
              clear hkq hRF mm9 m9
              go_wp2_with fail
              go_at_call 13
              refine (readyR_c HP9.out.a).mono ?_
              rintro e w10 ⟨aw, rfl, hw10, hfz, haw, m10⟩
              have hrl := ready_len (rnsOf L')
              have hKl := HP9.out.a.qb.2
              have HP10 := Lib.hid (HP9.out.mod0 m10)
              have HM10 := Lib.hid (HM9.out.then0 m10)
              have HW10 := Lib.hid (And.intro hw10 (And.intro hfz haw))
              have kp10 := m10.at0 kp9
              have hL9 : L'.length ≤ 900 := by have := HP9.out.len; omega
              have hrl2 : (readyR (rnsOf L')).length ≤ 301 := by omega
              have HP6L := Lib.hid (lt_size kp9)
              clear hw10 hfz haw m10 hrl hKl kp8 kp9 HP8 HM8
              obtain ⟨rl, hrl⟩ : ∃ rl, readyR (rnsOf L') = rl := ⟨_, rfl⟩
              rw [hrl] at hrl2
              rw [hrl] at HW10
              rw [hrl]
              obtain ⟨rn, hrn⟩ : ∃ rn, rl.length = rn := ⟨_, rfl⟩
              have HRL := Lib.hid (And.intro hrl hrn)
              rw [hrn] at hrl2
              rw [hrn]
              obtain ⟨av, cv, kb10, _⟩ := HP10.out.b.sl
              have HLK : Hid ((rnsOf L').length = L'.length) := Lib.hid (by unfold rnsOf; rw [List.length_map])
              clear hrl hrn
              go_upto_region 25 with fail
              have Lkb10 := lt_size kb10
              have Lkp10 := lt_size kp10
              refine wp_gpass (T0 := fun _ => False) (K := fun _ _ => True) (κ := fun i => [0, 0, 0, 0, 0, 6, 0, 0, 0, 0, 0, 0, 0, 0, 0, 0, 6, 6, 0, 0].getD i 0) (υ := fun i => [[], [], [], [], [], [], [], [], [], [], [], [], [], [], [], [], [], [], [], []].getD i []) [0, 1, 2, 3, 4, 5, 6, 7, 8, 9, 10, 11, 12, 13, 14, 15, 16, 17, 18, 19] (by kernel_rfl) (by kernel_rfl) (Good.true).cl (trivial) (fun _ h => h.elim) ?_
              have gK := Good.true
              (refine TG.v0 (v := ?v37) (by simp only [List.getElem?_toArray, List.getElem?_cons_succ, List.getElem?_cons_zero]; rfl) rfl ?hw37 (fun w1 => ?hy37) ?hn37; (case hw37 => rfl); (case hy37 => (go_simp; (try with_reducible rfl))); (try simp only [Act.put, List.setIfInBounds_toArray, List.set_cons_zero, List.set_cons_succ]))
              (refine TG.v0 (v := ?v38) (by simp only [List.getElem?_toArray, List.getElem?_cons_succ, List.getElem?_cons_zero]; rfl) rfl ?hw38 (fun w1 => ?hy38) ?hn38; (case hw38 => rfl); (case hy38 => (go_simp; (try with_reducible rfl))); (try simp only [Act.put, List.setIfInBounds_toArray, List.set_cons_zero, List.set_cons_succ]))
              (refine TG.v0 (v := ?v39) (by simp only [List.getElem?_toArray, List.getElem?_cons_succ, List.getElem?_cons_zero]; rfl) rfl ?hw39 (fun w1 => ?hy39) ?hn39; (case hw39 => rfl); (case hy39 => (go_simp; (try with_reducible rfl))); (try simp only [Act.put, List.setIfInBounds_toArray, List.set_cons_zero, List.set_cons_succ]))
              (refine TG.v0 (v := ?v40) (by simp only [List.getElem?_toArray, List.getElem?_cons_succ, List.getElem?_cons_zero]; rfl) rfl ?hw40 (fun w1 => ?hy40) ?hn40; (case hw40 => rfl); (case hy40 => (go_simp; (try with_reducible rfl))); (try simp only [Act.put, List.setIfInBounds_toArray, List.set_cons_zero, List.set_cons_succ]))
              (refine TG.v0 (v := ?v41) (by simp only [List.getElem?_toArray, List.getElem?_cons_succ, List.getElem?_cons_zero]; rfl) rfl ?hw41 (fun w1 => ?hy41) ?hn41; (case hw41 => rfl); (case hy41 => (go_simp; (try with_reducible rfl))); (try simp only [Act.put, List.setIfInBounds_toArray, List.set_cons_zero, List.set_cons_succ]))
              (refine TG.callN (f := ?f42) (args := ?r42) (fun v => v = .int .i64 (L'.length : Int)) gK (by simp only [List.getElem?_toArray, List.getElem?_cons_succ, List.getElem?_cons_zero]; rfl) rfl ?hw42 (fun w1 => ?hy42) (fun T wq kq ltq hSq ub => ?hsp42) ?hn42; (case hw42 => rfl); (case hy42 => (go_simp; (first | with_reducible rfl | (constructor <;> with_reducible rfl)))); (case hsp42 => (have kb10q := hSq.at kb10 (by intro hT; first | exact hT | exact absurd hT (by assumption) | omega | (simp only at hT; omega)); have kp10q := hSq.at kp10 (by intro hT; first | exact hT | exact absurd hT (by assumption) | omega | (simp only at hT; omega)); exact (lenE_c (HP10.out.a.mod0 (hSq.mono (fun _ _ h => h.elim))) L'.length HLK.out).mono (fun e w' h => ⟨_, h.1, rfl, by rw [h.2]; exact Mod.refl _ _⟩))); rintro v42 hC; obtain rfl := hC; (try simp only [Act.put, List.setIfInBounds_toArray, List.set_cons_zero, List.set_cons_succ]))
              (refine TG.v0 (v := ?v43) (by simp only [List.getElem?_toArray, List.getElem?_cons_succ, List.getElem?_cons_zero]; rfl) rfl ?hw43 (fun w1 => ?hy43) ?hn43; (case hw43 => rfl); (case hy43 => (go_simp; (try with_reducible rfl))); (try simp only [Act.put, List.setIfInBounds_toArray, List.set_cons_zero, List.set_cons_succ]))
              (refine TG.v0 (v := ?v44) (by simp only [List.getElem?_toArray, List.getElem?_cons_succ, List.getElem?_cons_zero]; rfl) rfl ?hw44 (fun w1 => ?hy44) ?hn44; (case hw44 => rfl); (case hy44 => (go_simp; (try with_reducible rfl))); (try simp only [Act.put, List.setIfInBounds_toArray, List.set_cons_zero, List.set_cons_succ]))
              (refine TG.v0 (v := ?v45) (by simp only [List.getElem?_toArray, List.getElem?_cons_succ, List.getElem?_cons_zero]; rfl) rfl ?hw45 (fun w1 => ?hy45) ?hn45; (case hw45 => rfl); (case hy45 => (go_simp; (try with_reducible rfl))); (try simp only [Act.put, List.setIfInBounds_toArray, List.set_cons_zero, List.set_cons_succ]))
              (refine TG.load (v := ?v46) (p := ?p46) (by simp only [List.getElem?_toArray, List.getElem?_cons_succ, List.getElem?_cons_zero]; rfl) rfl ?hw46 rfl ?hx46 (fun wq hSq => ?hy46) ?hn46; (case hw46 => rfl); (case hx46 => (simp only [Act.eval, Array.getD_eq_getD_getElem?, List.getElem?_toArray, List.getElem?_cons_succ, List.getElem?_cons_zero, Option.getD_some]; (try rfl))); (case hy46 => (have kb10q := hSq.at kb10 (by intro hT; first | exact hT | exact absurd hT (by assumption) | omega | (simp only at hT; omega)); have kp10q := hSq.at kp10 (by intro hT; first | exact hT | exact absurd hT (by assumption) | omega | (simp only at hT; omega)); go_simp; (try with_reducible rfl))); (try simp only [Act.put, List.setIfInBounds_toArray, List.set_cons_zero, List.set_cons_succ]))
              (refine TG.v0 (v := ?v47) (by simp only [List.getElem?_toArray, List.getElem?_cons_succ, List.getElem?_cons_zero]; rfl) rfl ?hw47 (fun w1 => ?hy47) ?hn47; (case hw47 => rfl); (case hy47 => (go_simp; (try with_reducible rfl))); (try simp only [Act.put, List.setIfInBounds_toArray, List.set_cons_zero, List.set_cons_succ]))
              (refine TG.v0 (v := ?v48) (by simp only [List.getElem?_toArray, List.getElem?_cons_succ, List.getElem?_cons_zero]; rfl) rfl ?hw48 (fun w1 => ?hy48) ?hn48; (case hw48 => rfl); (case hy48 => (go_simp; (try with_reducible rfl))); (try simp only [Act.put, List.setIfInBounds_toArray, List.set_cons_zero, List.set_cons_succ]))
              (refine TG.v0 (v := ?v49) (by simp only [List.getElem?_toArray, List.getElem?_cons_succ, List.getElem?_cons_zero]; rfl) rfl ?hw49 (fun w1 => ?hy49) ?hn49; (case hw49 => rfl); (case hy49 => (go_simp; (try with_reducible rfl))); (try simp only [Act.put, List.setIfInBounds_toArray, List.set_cons_zero, List.set_cons_succ]))
              (refine TG.v0 (v := ?v50) (by simp only [List.getElem?_toArray, List.getElem?_cons_succ, List.getElem?_cons_zero]; rfl) rfl ?hw50 (fun w1 => ?hy50) ?hn50; (case hw50 => rfl); (case hy50 => (go_simp; (try with_reducible rfl))); (try simp only [Act.put, List.setIfInBounds_toArray, List.set_cons_zero, List.set_cons_succ]))
              (refine TG.v0 (v := ?v51) (by simp only [List.getElem?_toArray, List.getElem?_cons_succ, List.getElem?_cons_zero]; rfl) rfl ?hw51 (fun w1 => ?hy51) ?hn51; (case hw51 => rfl); (case hy51 => (go_simp; (try with_reducible rfl))); (try simp only [Act.put, List.setIfInBounds_toArray, List.set_cons_zero, List.set_cons_succ]))
              (refine TG.v0 (v := ?v52) (by simp only [List.getElem?_toArray, List.getElem?_cons_succ, List.getElem?_cons_zero]; rfl) rfl ?hw52 (fun w1 => ?hy52) ?hn52; (case hw52 => rfl); (case hy52 => (go_simp; (try with_reducible rfl))); (try simp only [Act.put, List.setIfInBounds_toArray, List.set_cons_zero, List.set_cons_succ]))
              (refine TG.callM (f := ?f53) (args := ?r53) (RowI rl) (goodRowI rl) gK (by simp only [List.getElem?_toArray, List.getElem?_cons_succ, List.getElem?_cons_zero]; rfl) rfl ?hw53 (fun w1 => ?hy53) (fun T wq kq ltq hSq ub => ?hsp53) ?hn53; (case hw53 => rfl); (case hy53 => (go_simp; (first | with_reducible rfl | (constructor <;> with_reducible rfl)))); (case hsp53 => (have kb10q := hSq.at kb10 (by intro hT; first | exact hT | exact absurd hT (by assumption) | omega | (simp only at hT; omega)); have kp10q := hSq.at kp10 (by intro hT; first | exact hT | exact absurd hT (by assumption) | omega | (simp only at hT; omega)); exact qreadyI (HP10.out.b.mod0 (hSq.mono (fun _ _ h => h.elim))) hL9 rl HRL.out.1)); rintro v53 ⟨wI, TI, hI⟩; replace gK := gK.and ((goodRowI rl) v53); skip; (try clear hI TI wI); (try simp only [Act.put, List.setIfInBounds_toArray, List.set_cons_zero, List.set_cons_succ]))
              (refine TG.callN (f := ?f54) (args := ?r54) (fun v => v = .bool true) gK (by simp only [List.getElem?_toArray, List.getElem?_cons_succ, List.getElem?_cons_zero]; rfl) rfl ?hw54 (fun w1 => ?hy54) (fun T wq kq ltq hSq ub => ?hsp54) ?hn54; (case hw54 => rfl); (case hy54 => (go_simp; (first | with_reducible rfl | (constructor <;> with_reducible rfl)))); (case hsp54 => (have kb10q := hSq.at kb10 (by intro hT; first | exact hT | exact absurd hT (by assumption) | omega | (simp only at hT; omega)); have kp10q := hSq.at kp10 (by intro hT; first | exact hT | exact absurd hT (by assumption) | omega | (simp only at hT; omega)); exact sameI rn rn HRL.out.2 (SlAt.mod0 HW10.out.1 (hSq.mono (fun _ _ h => h.elim))) kq.2 (by have := HRL.out.2; omega))); rintro v54 hC; obtain rfl := hC; (try simp only [Act.put, List.setIfInBounds_toArray, List.set_cons_zero, List.set_cons_succ]))
              (refine TG.v0 (v := ?v55) (by simp only [List.getElem?_toArray, List.getElem?_cons_succ, List.getElem?_cons_zero]; rfl) rfl ?hw55 (fun w1 => ?hy55) ?hn55; (case hw55 => rfl); (case hy55 => (go_simp; (try with_reducible rfl))); (try simp only [Act.put, List.setIfInBounds_toArray, List.set_cons_zero, List.set_cons_succ]))
              (refine TG.v0 (v := ?v56) (by simp only [List.getElem?_toArray, List.getElem?_cons_succ, List.getElem?_cons_zero]; rfl) rfl ?hw56 (fun w1 => ?hy56) ?hn56; (case hw56 => rfl); (case hy56 => (go_simp; (try with_reducible rfl))); (try simp only [Act.put, List.setIfInBounds_toArray, List.set_cons_zero, List.set_cons_succ]))
              refine TG.nil (fun w11 ⟨TR, hr⟩ => ?_)
              have kb10 := hr.mod.at kb10 (by intro hT; first | exact hT | exact absurd hT (by assumption) | omega | (simp only at hT; omega))
              have kp10 := hr.mod.at kp10 (by intro hT; first | exact hT | exact absurd hT (by assumption) | omega | (simp only at hT; omega))
              clear gK
              have HP11 := Lib.hid (HP10.out.mod0 hr.mod)
              have HM11 := Lib.hid (HM10.out.then0 hr.mod)
              have HW11 := Lib.hid (HW10.out.1.mod0 hr.mod)
              have HWA := Lib.hid ((WAt.start HW10.out.1 HW10.out.2.1).mod0 hr.mod)
              clear hr HP10 HM10
              have HWB : Hid (∀ b o, aw = some ⟨b, o, none⟩ → (∀ j, TA' j ∨ TB' j → j < b) ∧ p6 < b ∧ w.heap.size ≤ b) := Lib.hid (fun b o e => by
                have h1 := HW10.out.2.2 _ e
                refine ⟨fun j hj => hj.elim (fun h => Nat.lt_of_lt_of_le (HP9.out.a.2 j h) h1) (fun h => Nat.lt_of_lt_of_le (HP9.out.lb j h).2 h1), Nat.lt_of_lt_of_le HP6L.out h1, Nat.le_trans HM9.out.size h1⟩)
              have HWA2 : Hid (WAt w11 aw rn) := Lib.hid (by have := HWA.out; rwa [HRL.out.2] at this)
              have hrn9 : rn ≤ 301 := hrl2
              clear HWA HP6L HW10 HP9 HM9 kb10 hrl2
              go_wp2_with fail
              go_loopw [12] (fun s12 wk => ∃ k : Nat, k ≤ rn ∧ s12 = .int .i64 k ∧ Hid (WAt wk aw rn) ∧ Mod (fun j => ∃ o, aw = some ⟨j, o, none⟩) w11 wk) (fun s12 _ => rn - (intOf s12).toNat)
              case atStart => exact ⟨0, Nat.zero_le _, rfl, HWA2, Mod.refl _ _⟩
              case round =>
                obtain ⟨k, hk, rfl, HWk, m12⟩ := hrel
                by_cases hkq : k < rn
                · obtain ⟨b, o2, C2, U2, u, rfl, kw, hcu⟩ := HWk.out k hkq
                  have hdk : decide ((k : Int) < (rn : Int)) = true := decide_eq_true (by omega)
                  have KW := Lib.hid kw
                  go_upto_region 30 with fail
                  have Lkw := lt_size kw
                  refine wp_pass0 (C := fun _ _ _ => False) (κ := fun i => [0, 0, 0, 5].getD i 0) [0, 1, 2, 3] (by kernel_rfl) (by kernel_rfl) (fun _ _ d _ _ h => by cases d <;> first | exact h | exact absurd h (hP _ _ _)) ?_
                  (refine TD.val0 (v := ?v57) (by simp only [List.getElem?_toArray, List.getElem?_cons_succ, List.getElem?_cons_zero]; rfl) rfl ?hw57 (fun w1 => ?hy57) ?hn57; (case hw57 => rfl); (case hy57 => (go_simp; (try with_reducible rfl))); (try simp only [Act.put, List.setIfInBounds_toArray, List.set_cons_zero, List.set_cons_succ]))
                  (refine TD.val0 (v := ?v58) (by simp only [List.getElem?_toArray, List.getElem?_cons_succ, List.getElem?_cons_zero]; rfl) rfl ?hw58 (fun w1 => ?hy58) ?hn58; (case hw58 => rfl); (case hy58 => (go_simp; (try with_reducible rfl))); (try simp only [Act.put, List.setIfInBounds_toArray, List.set_cons_zero, List.set_cons_succ]))
                  (refine TD.val0 (v := ?v59) (by simp only [List.getElem?_toArray, List.getElem?_cons_succ, List.getElem?_cons_zero]; rfl) rfl ?hw59 (fun w1 => ?hy59) ?hn59; (case hw59 => rfl); (case hy59 => (go_simp; (try with_reducible rfl))); (try simp only [Act.put, List.setIfInBounds_toArray, List.set_cons_zero, List.set_cons_succ]))
                  refine TD.eff (by simp only [List.getElem?_toArray, List.getElem?_cons_succ, List.getElem?_cons_zero]; rfl) rfl (fun wE hr => ?_)
                  have kw := hr.mod.at0 kw
                  have mE := hr.mod
                  (refine eff_store (X := ?X60) (Y := ?Y60) (w' := ?w60) (by simp only [List.getElem?_toArray, List.getElem?_cons_succ, List.getElem?_cons_zero]; rfl) ?hw60 rfl ?hx60 ?hz60 ?hy60 ?hn60; (case hw60 => rfl); (case hx60 => (simp only [Act.eval, Array.getD_eq_getD_getElem?, List.getElem?_toArray, List.getElem?_cons_succ, List.getElem?_cons_zero, Option.getD_some]; (try rfl))); (case hz60 => (simp only [Act.eval, Array.getD_eq_getD_getElem?, List.getElem?_toArray, List.getElem?_cons_succ, List.getElem?_cons_zero, Option.getD_some]; (try rfl))); (case hy60 => (go_simp; (try with_reducible rfl))))
                  (first | refine TE.nil_set kw (fun w13 kw mS => ?_) | refine TE.nil_setCell kw (fun w13 kw mS => ?_))
                  (try simp only [Array.setIfInBounds, List.setIfInBounds_toArray, List.set_cons_zero, List.set_cons_succ] at kw)
                  have m13 : Mod (fun j => ∃ o, (some ⟨b, o2, none⟩ : Option Addr) = some ⟨j, o, none⟩) w11 w13 := (m12.then0 mE).then mS (fun _ _ e => by subst e; exact ⟨_, rfl⟩)
                  have HWn := Lib.hid (WAt.step (k := k) (v := .int .i64 (-9)) HWk.out KW.out kw)
                  clear mE mS
                  go_wp2_with fail
                  go_roundw
                  case rel => exact ⟨k + 1, by omega, by go_num, HWn, m13⟩
                  case measure => simp [intOf]; omega
                · obtain rfl : k = rn := by omega
                  have hdk : decide ((k : Int) < (k : Int)) = false := decide_eq_false (by omega)
                  have HP12 := Lib.hid (HP11.out.mod m12 (fun j hj ⟨o, e⟩ => by have := (HWB.out j o e).1 j (.inl hj); omega) (fun j hj ⟨o, e⟩ => by have := (HWB.out j o e).1 j (.inr hj); omega))
                  have HM12 := Lib.hid (HM11.out.then m12 (fun j hj ⟨o, e⟩ => by have := (HWB.out j o e).2.2; omega))
                  have kp12 := m12.at kp10 (fun ⟨o, e⟩ => by have := (HWB.out p6 o e).2.1; omega)
                  clear m12 HP11 HM11 kp10 hkq HWk
                  go_wp2_with fail
                  go_at_call 11
                  refine (chA_c HP12.out.a yi).mono ?_
                  rintro e w14 ⟨⟨cv1, ev1, hC, rfl⟩, rfl⟩
                  have HC := Lib.hid hC
                  clear hC
                  go_wp2_with fail
                  go_at_call 21
                  refine (chQ_c HP12.out.b hL9 HP12.out.a.ids yi HC.out).mono ?_
                  rintro e w15 ⟨rfl, m15⟩
                  have HP15 := Lib.hid (HP12.out.mod0 m15)
                  have HM15 := Lib.hid (HM12.out.then0 m15)
                  clear m15
                  go_wp2_with fail
                  go_at_call 13
                  refine (readyE_c HP15.out.a rl HRL.out.1 k HRL.out.2).mono ?_
                  rintro e w16 ⟨a16, rfl, h16, m16⟩
                  have HP16 := Lib.hid (HP15.out.mod0 m16)
                  have H16 := Lib.hid h16
                  clear h16
                  go_wp2_with fail
                  go_at_call 20
                  refine (qreadyI (T := fun _ => False) HP16.out.b hL9 rl HRL.out.1).mono ?_
                  rintro e w17 ⟨v, rfl, m17, hI⟩
                  obtain ⟨a17, c17, e17, h17, _⟩ := hI
                  rw [HRL.out.2] at e17
                  subst e17
                  have H17 := Lib.hid h17
                  clear h17
                  go_wp2_with fail
                  go_at_call 12
                  refine (sameE_c k k c17 HRL.out.2 (H16.out.mod0 m17) H17.out (by have := HRL.out.2; omega)).mono ?_
                  rintro e w18 ⟨rfl, m18⟩
                  have HP18 := Lib.hid ((HP16.out.mod0 m17).mod0 m18)
                  have HM18 := Lib.hid (((HM15.out.then0 m16).then0 m17).then0 m18)
                  clear m16 m17 m18 kp12
                  go_wp2_with fail
                  go_loopw [17] (fun s17 wk => ∃ j : Nat, j ≤ L'.length ∧ s17 = .int .i64 j ∧ Mod (fun _ => False) w18 wk) (fun s17 _ => L'.length - (intOf s17).toNat)
                  case atStart => exact ⟨0, Nat.zero_le _, rfl, Mod.refl _ _⟩
                  case round =>
                    obtain ⟨j, hj, rfl, m19⟩ := hrel
                    obtain ⟨av2, cv2, kb, hsl⟩ := (HP18.out.mod0 m19).b.sl
                    by_cases hjl : j < L'.length
                    · have hdj : decide ((j : Int) < (L'.length : Int)) = true := decide_eq_true (by omega)
                      obtain ⟨z, hz⟩ : ∃ z, L'[j]? = some z := ⟨_, List.getElem?_eq_getElem hjl⟩
                      obtain ⟨bz, oz, Cz, Uz, fz, rfl, kz, h0, h1, _⟩ := nq_at hsl hz
                      have HZ := Lib.hid (rns_mem (List.mem_of_getElem? hz))
                      clear hz hsl
                      go_wp2_with fail
                      go_at_call 11
                      refine (chainR_c (HP18.out.mod0 m19).a z.x HZ.out).mono ?_
                      rintro e w20 ⟨rfl, rfl⟩
                      go_wp2_with fail
                      go_roundw
                      case rel => exact ⟨j + 1, by omega, by go_num, m19⟩
                      case measure => simp [intOf]; omega
                    · obtain rfl : j = L'.length := by omega
                      have hdj : decide ((L'.length : Int) < (L'.length : Int)) = false := decide_eq_false (by omega)
                      have HPZ := Lib.hid (HP18.out.mod0 m19)
                      have HMZ := Lib.hid (HM18.out.then0 m19)
                      clear hjl hsl
                      go_wp2_with fail
                      go_roundw
                      case rel => exact ⟨i + 1, q', L', TA', TB', by omega, by go_num, HPZ, hq8, HMZ⟩
                      case measure => simp [intOf]; omega
      · have hE : i = l.length := by omega
        subst hE
        have hdi : decide ((l.length : Int) < (l.length : Int)) = false := decide_eq_false (by omega)
        clear hlt
        go_wp2_with fail
        go_at_call 8
        refine (lives_c _).mono ?_
        rintro e w9 ⟨rfl, m9⟩
        go_wp2_with fail
        go_ret
        exact ⟨rfl, HM.out.then0 m9⟩
theorem playLaw_s (a : Option Addr) (l : List Ac) (c : Nat) (w : World) (hl : SlAt acv 3 w a l) (ho : ∀ y ∈ l, AcOk w y) (hz : l.length * 40 ≤ reachBytes) (hb : ∀ y, a = some y → y.block < w.heap.size ∨ l = []) (hx : l.length ≤ maxLen) :
    Calls Try.prog 4 #[.slice a l.length c] w fun e w' => e = .returned (.bool true) ∧ Mod (fun _ => False) w w' :=
  playLaw_c a l c w hl hb (by simp only [reachBytes] at hz; omega) ho
end Go.Proofs.Ytffcnnogkpdinaa
