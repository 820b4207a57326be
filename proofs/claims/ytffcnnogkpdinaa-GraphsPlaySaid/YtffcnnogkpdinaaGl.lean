/- Graphs: the state as a list of ids with their roles; the methods' contracts over it. -/
import Derived.Test.YtffcnnogkpdinaaGz
import Derived.Test.YtffcnnogkpdinaaGre
namespace Go.Proofs.Ytffcnnogkpdinaa
open Go.RowKit
open Go.ChangeMaps (setBlock)
set_option linter.unusedSimpArgs false
set_option linter.unusedVariables false
attribute [local go_sem] cell_blk frozen_blk one_int one_bool one_ptr one_slice one_map Value.cells eqMap neMap
/-- Have two lists of roles one key that one of both writes? -/
def conf (a b : List Role) : Bool := a.any fun r => b.any fun s => decide (r.k = s.k) && (r.w || s.w)
theorem conf_iff {a b : List Role} : conf a b = true ↔ ∃ r ∈ a, ∃ s ∈ b, r.k = s.k ∧ (r.w = true ∨ s.w = true) := by
  simp [conf]
theorem howL_nodup (l : List Role) : ((howL l).map Prod.fst).Nodup := by
  induction l using list_snoc_ind with
  | h0 => simp [howL]
  | h1 l r ih => rw [howL_snoc]; exact nodup_put ih _ _
theorem how_some {l : List Role} {k : Key} {b : Bool} : lkp k (howL l) = some b ↔ (∃ r ∈ l, r.k = k) ∧ (b = true ↔ ∃ r ∈ l, r.k = k ∧ r.w = true) := by
  induction l using list_snoc_ind generalizing b with
  | h0 => simp [howL, lkp]
  | h1 l r ih =>
    rw [howL_snoc]
    unfold howR
    rw [lkp_put]
    by_cases hk : k = r.k
    · subst hk
      rw [if_pos rfl]
      have hc : (lkp r.k (howL l)).getD false = true ↔ ∃ x ∈ l, x.k = r.k ∧ x.w = true := by
        cases e : lkp r.k (howL l) with
        | none =>
          simp only [Option.getD_none, Bool.false_eq_true, false_iff]
          rintro ⟨x, hx, h1, h2⟩
          have := (ih (b := true)).2 ⟨⟨x, hx, h1⟩, by simp; exact ⟨x, hx, h1, h2⟩⟩
          rw [e] at this
          cases this
        | some v =>
          rw [Option.getD_some]
          exact (ih.1 e).2
      constructor
      · intro h
        cases h
        refine ⟨⟨r, by simp, rfl⟩, ?_⟩
        rw [Bool.or_eq_true, hc]
        constructor
        · rintro (⟨x, hx, h⟩ | h)
          · exact ⟨x, List.mem_append_left _ hx, h⟩
          · exact ⟨r, by simp, rfl, h⟩
        · rintro ⟨x, hx, h1, h2⟩
          rcases List.mem_append.1 hx with hx | hx
          · exact .inl ⟨x, hx, h1, h2⟩
          · simp at hx
            subst hx
            exact .inr h2
      · rintro ⟨_, h⟩
        congr 1
        rw [Bool.eq_iff_iff, Bool.or_eq_true, hc, h]
        constructor
        · rintro (⟨x, hx, h⟩ | h)
          · exact ⟨x, List.mem_append_left _ hx, h⟩
          · exact ⟨r, by simp, rfl, h⟩
        · rintro ⟨x, hx, h1, h2⟩
          rcases List.mem_append.1 hx with hx | hx
          · exact .inl ⟨x, hx, h1, h2⟩
          · simp at hx
            subst hx
            exact .inr h2
    · rw [if_neg hk, ih]
      have h1 : ∀ p : Role → Prop, (∃ x ∈ l ++ [r], x.k = k ∧ p x) ↔ ∃ x ∈ l, x.k = k ∧ p x := fun p => by
        constructor
        · rintro ⟨x, hx, h1, h2⟩
          rcases List.mem_append.1 hx with hx | hx
          · exact ⟨x, hx, h1, h2⟩
          · simp at hx
            subst hx
            exact absurd h1.symm hk
        · rintro ⟨x, hx, h⟩
          exact ⟨x, List.mem_append_left _ hx, h⟩
      have h2 := h1 (fun _ => True)
      simp only [and_true] at h2
      rw [h2, h1 (fun x => x.w = true)]
theorem conf_how {a b : List Role} : conf a b = true ↔ ∃ k x y, lkp k (howL a) = some x ∧ lkp k (howL b) = some y ∧ (x = true ∨ y = true) := by
  rw [conf_iff]
  have hex : ∀ (l : List Role) (k : Key), (∃ r ∈ l, r.k = k) → ∃ v, lkp k (howL l) = some v := fun l k h => by
    cases e : lkp k (howL l) with
    | some v => exact ⟨v, rfl⟩
    | none =>
      by_cases hw : ∃ r ∈ l, r.k = k ∧ r.w = true
      · have := (how_some (b := true)).2 ⟨h, by simp; exact hw⟩
        rw [e] at this; cases this
      · have := (how_some (b := false)).2 ⟨h, by simp only [Bool.false_eq_true, false_iff]; exact hw⟩
        rw [e] at this; cases this
  constructor
  · rintro ⟨r, hr, s, hs, hk, hw⟩
    obtain ⟨x, hx⟩ := hex a r.k ⟨r, hr, rfl⟩
    obtain ⟨y, hy⟩ := hex b r.k ⟨s, hs, hk.symm⟩
    refine ⟨r.k, x, y, hx, hy, hw.imp (fun h => ?_) (fun h => ?_)⟩
    · exact (how_some.1 hx).2.2 ⟨r, hr, rfl, h⟩
    · exact (how_some.1 hy).2.2 ⟨s, hs, hk.symm, h⟩
  · rintro ⟨k, x, y, hx, hy, h⟩
    obtain ⟨⟨r, hr, hrk⟩, hxw⟩ := how_some.1 hx
    obtain ⟨⟨s, hs, hsk⟩, hyw⟩ := how_some.1 hy
    rcases h with h | h
    · obtain ⟨r, hr, hrk, hw⟩ := hxw.1 h
      exact ⟨r, hr, s, hs, hrk.trans hsk.symm, .inl hw⟩
    · obtain ⟨s, hs, hsk, hw⟩ := hyw.1 h
      exact ⟨r, hr, s, hs, hrk.trans hsk.symm, .inr hw⟩
theorem conf_symm (a b : List Role) : conf a b = conf b a := by
  rw [Bool.eq_iff_iff, conf_iff, conf_iff]
  constructor
  · rintro ⟨r, hr, s, hs, h1, h2⟩; exact ⟨s, hs, r, hr, h1.symm, h2.symm⟩
  · rintro ⟨r, hr, s, hs, h1, h2⟩; exact ⟨s, hs, r, hr, h1.symm, h2.symm⟩
/-- One that is in a graph. -/
structure Rn where
  id : Int64
  ch : Int64
  l : List Role
def Rn.cn (x : Rn) : Cn := ⟨x.id, x.ch, fun k => lkp k (howL x.l)⟩
theorem hitC_conf {x y : Rn} : HitC x.cn y.cn ↔ conf x.l y.l = true := by
  rw [conf_how]
  unfold HitC hitK Rn.cn
  constructor
  · rintro ⟨k, h⟩
    dsimp only at h
    cases e1 : lkp k (howL x.l) with
    | none => rw [e1] at h; exact h.elim
    | some a =>
      cases e2 : lkp k (howL y.l) with
      | none => rw [e1, e2] at h; exact h.elim
      | some b =>
        rw [e1, e2] at h
        exact ⟨k, a, b, e1, e2, h⟩
  · rintro ⟨k, a, b, h1, h2, h3⟩
    refine ⟨k, ?_⟩
    dsimp only
    rw [h1, h2]
    exact h3
theorem hitB_conf {a b : List Role} : hitB (fun k => lkp k (howL a)) (howL b) = conf a b := by
  rw [Bool.eq_iff_iff, conf_how]
  unfold hitB
  rw [List.any_eq_true]
  constructor
  · rintro ⟨p, hp, h⟩
    have h2 := lkp_of_mem (howL_nodup b) hp
    dsimp only at h
    cases e : lkp p.1 (howL a) with
    | none => rw [e] at h; cases h
    | some x =>
      rw [e] at h
      exact ⟨p.1, x, p.2, e, h2, by simpa using h⟩
  · rintro ⟨k, x, y, h1, h2, h3⟩
    refine ⟨(k, y), lkp_mem h2, ?_⟩
    dsimp only
    rw [h1]
    simpa using h3
/-- The chain of one more. -/
def chainR (K : List Rn) (id : Int64) (l : List Role) : Int64 := ((K.filter fun x => conf x.l l).getLast?.map Rn.ch).getD id
theorem chainC_map (K : List Rn) (id : Int64) (l : List Role) : chainC (K.map Rn.cn) id (howL l) = chainR K id l := by
  unfold chainC chainR
  rw [List.filter_map, List.getLast?_map, Option.map_map]
  have : ((fun x => hitB x.how (howL l)) ∘ Rn.cn) = fun x : Rn => conf x.l l := by
    funext x
    exact hitB_conf
  rw [this]
  rfl
/-- Those that nobody blocks. -/
def readyAt (pre : List Rn) : List Rn → List Int64
  | [] => []
  | x :: r => (if pre.any (fun y => conf y.l x.l) then [] else [x.id]) ++ readyAt (pre ++ [x]) r
def readyR (K : List Rn) : List Int64 := readyAt [] K
theorem readyFrom_map : ∀ (K pre : List Rn), readyFrom (pre.map Rn.cn) (K.map Rn.cn) = readyAt pre K
  | [], _ => rfl
  | x :: r, pre => by
    have ih := readyFrom_map r (pre ++ [x])
    rw [List.map_append] at ih
    show _ ++ readyFrom (pre.map Rn.cn ++ [x].map Rn.cn) _ = _ ++ readyAt _ _
    rw [ih]
    congr 1
    by_cases h : pre.any (fun y => conf y.l x.l) = true
    · rw [if_pos h, if_pos]
      obtain ⟨y, hy, hh⟩ := List.any_eq_true.1 h
      exact ⟨y.cn, List.mem_map.2 ⟨y, hy, rfl⟩, hitC_conf.2 hh⟩
    · rw [if_neg h, if_neg]
      · rfl
      · rintro ⟨z, hz, hh⟩
        obtain ⟨y, hy, rfl⟩ := List.mem_map.1 hz
        exact h (List.any_eq_true.2 ⟨y, hy, hitC_conf.1 hh⟩)
theorem readyC_map (K : List Rn) : readyC (K.map Rn.cn) = readyR K := readyFrom_map K []
/-- A graph at g, of K, behind q puts. -/
def RAt (g q : Nat) (K : List Rn) (T : Nat → Prop) (w : World) : Prop := GAt g q (K.map Rn.cn) T w ∧ ∀ i, T i → i < w.heap.size
theorem RAt.mod {g q : Nat} {K : List Rn} {T : Nat → Prop} {w w' : World} (h : RAt g q K T w) {M : Nat → Prop} (hm : Mod M w w') (hM : ∀ i, T i → ¬ M i) : RAt g q K T w' :=
  ⟨(GAt.good g q _).cl T w w' h.1 (hm.mono (fun i _ hi hT => hM i hT hi)), fun i hi => Nat.lt_of_lt_of_le (h.2 i hi) hm.size⟩
theorem RAt.mod0 {g q : Nat} {K : List Rn} {T : Nat → Prop} {w w' : World} (h : RAt g q K T w) (hm : Mod (fun _ => False) w w') : RAt g q K T w' := h.mod hm (fun _ _ h => h)
theorem newR_c (w : World) : Calls Try.prog 9 #[] w fun e w' => ∃ g, e = .returned (ptrV g) ∧ ∃ T, RAt g 0 [] T w' ∧ Mod (fun _ => False) w w' ∧ ∀ i, T i → w.heap.size ≤ i :=
  (new_c w).mono fun e w' ⟨g, h1, T, h2, h3, h4⟩ => ⟨g, h1, T, ⟨h2, fun i hi => (h4 i hi).2⟩, h3, fun i hi => (h4 i hi).1⟩
theorem putR_c {g q : Nat} {K : List Rn} {T : Nat → Prop} {w : World} (hA : RAt g q K T w) (hq : q < 900) (id : Int64) (a : Option Addr) (l : List Role) (c : Nat) (hl : RolesAt w a l) (hll : l.length ≤ 800) (hd : l ≠ [] → ∀ b o, a = some ⟨b, o, none⟩ → ¬ T b) (hid : ∀ x ∈ K, x.id ≠ id) :
    Calls Try.prog 10 #[ptrV g, .int .i64 id.toInt, .slice a l.length c] w fun e w' => e = .returned (.int .i64 0) ∧ ∃ T', RAt g (q + 1) (K ++ [⟨id, chainR K id l, l⟩]) T' w' ∧ Mod T w w' ∧ ∀ i, T' i → T i ∨ w.heap.size ≤ i := by
  refine (put_c hA.1 hA.2 hq id a l c hl hll hd (fun x hx => by
    obtain ⟨y, hy, rfl⟩ := List.mem_map.1 hx
    exact hid y hy)).mono ?_
  rintro e w' ⟨rfl, T', h1, h2, h3, h4⟩
  rw [chainC_map] at h1
  exact ⟨rfl, T', ⟨by rw [List.map_append]; exact h1, h4⟩, h2, h3⟩
theorem popR_c {g q : Nat} {X Y : List Rn} {x : Rn} {T : Nat → Prop} {w : World} (hA : RAt g q (X ++ x :: Y) T w) : Calls Try.prog 16 #[ptrV g, .int .i64 x.id.toInt] w fun e w' =>
    (X.any (fun y => conf y.l x.l) = true ∧ e = .returned (.int .i64 23) ∧ Mod (fun _ => False) w w') ∨ (X.any (fun y => conf y.l x.l) = false ∧ e = .returned (.int .i64 0) ∧ RAt g q (X ++ Y) T w' ∧ Mod T w w') := by
  have h := hA.1
  rw [List.map_append, List.map_cons] at h
  refine (pop_c h hA.2 x.id rfl).mono ?_
  rintro e w' (⟨rfl, ⟨y, hy, hh⟩, hm⟩ | ⟨rfl, hn, hG, hm⟩)
  · obtain ⟨z, hz, rfl⟩ := List.mem_map.1 hy
    exact .inl ⟨List.any_eq_true.2 ⟨z, hz, hitC_conf.1 hh⟩, rfl, hm⟩
  · refine .inr ⟨?_, rfl, ⟨by rw [List.map_append]; exact hG, fun i hi => Nat.lt_of_lt_of_le (hA.2 i hi) hm.size⟩, hm⟩
    rw [List.any_eq_false]
    intro z hz hh
    exact hn z.cn (List.mem_map.2 ⟨z, hz, rfl⟩) (hitC_conf.2 hh)
theorem popN_c {g q : Nat} {K : List Rn} {T : Nat → Prop} {w : World} (hA : RAt g q K T w) (id : Int64) (hid : ∀ x ∈ K, x.id ≠ id) : Calls Try.prog 16 #[ptrV g, .int .i64 id.toInt] w fun e w' => e = .returned (.int .i64 11) ∧ Mod (fun _ => False) w w' :=
  pop_none hA.1 id (fun x hx => by
    obtain ⟨y, hy, rfl⟩ := List.mem_map.1 hx
    exact hid y hy)
theorem readyR_c {g q : Nat} {K : List Rn} {T : Nat → Prop} {w : World} (hA : RAt g q K T w) : Calls Try.prog 13 #[ptrV g] w fun e w' =>
    ∃ a, e = .returned (.slice a (readyR K).length (readyR K).length) ∧ SlAt ic 1 w' a (readyR K) ∧ Fz w' a ∧ (∀ x, a = some x → w.heap.size ≤ x.block) ∧ Mod (fun _ => False) w w' := by
  have h := ready_c hA.1
  rw [readyC_map] at h
  exact h
theorem lenR_c {g q : Nat} {K : List Rn} {T : Nat → Prop} {w : World} (hA : RAt g q K T w) : Calls Try.prog 19 #[ptrV g] w fun e w' => e = .returned (.int .i64 (K.length : Int)) ∧ w' = w := by
  have h := len_c hA.1
  rw [List.length_map] at h
  exact h
theorem RAt.ids {g q : Nat} {K : List Rn} {T : Nat → Prop} {w : World} (hA : RAt g q K T w) : (K.map Rn.id).Nodup := by
  obtain ⟨tag, nb, sb, L, N, S, nd, sp, H, I, hC, hO⟩ := hA.1
  obtain ⟨es, c, kb, M⟩ := H.kn
  have h := I.ids M.nodup
  have e : K.map Rn.id = L.map An.id := by
    have := congrArg (List.map Cn.id) hC
    rw [List.map_map, List.map_map] at this
    exact this
  rw [e]
  exact h
theorem RAt.qb {g q : Nat} {K : List Rn} {T : Nat → Prop} {w : World} (hA : RAt g q K T w) : q ≤ 900 ∧ K.length ≤ q := by
  obtain ⟨tag, nb, sb, L, N, S, nd, sp, H, I, hC, hO⟩ := hA.1
  have e := congrArg List.length hC
  rw [List.length_map, List.length_map] at e
  exact ⟨I.pub, by rw [e]; exact I.Llen⟩
theorem chainN_c {g q : Nat} {K : List Rn} {T : Nat → Prop} {w : World} (hA : RAt g q K T w) (id : Int64) (hid : ∀ x ∈ K, x.id ≠ id) : Calls Try.prog 11 #[ptrV g, .int .i64 id.toInt] w fun e w' => e = .returned (.tuple #[.int .i64 0, .int .i64 11]) ∧ w' = w := by
  refine (chain_c hA.1 id).mono ?_
  rintro e w' ⟨rfl, h⟩
  rcases h with ⟨h, _⟩ | ⟨x, hx, h1, _⟩
  · exact ⟨h, rfl⟩
  · obtain ⟨y, hy, rfl⟩ := List.mem_map.1 hx
    exact absurd h1 (hid y hy)
theorem nodup_id {K : List Rn} (h : (K.map Rn.id).Nodup) {x y : Rn} (hx : x ∈ K) (hy : y ∈ K) (e : x.id = y.id) : x = y := by
  induction K with
  | nil => cases hx
  | cons z r ih =>
    rw [List.map_cons, List.nodup_cons] at h
    rcases List.mem_cons.1 hx with e1 | hx <;> rcases List.mem_cons.1 hy with e2 | hy
    · rw [e1, e2]
    · exact absurd (List.mem_map.2 ⟨y, hy, by rw [← e, e1]⟩) h.1
    · exact absurd (List.mem_map.2 ⟨x, hx, by rw [e, e2]⟩) h.1
    · exact ih h.2 hx hy
theorem chainR_c {g q : Nat} {K : List Rn} {T : Nat → Prop} {w : World} (hA : RAt g q K T w) (x : Rn) (hx : x ∈ K) : Calls Try.prog 11 #[ptrV g, .int .i64 x.id.toInt] w fun e w' => e = .returned (.tuple #[.int .i64 x.ch.toInt, .int .i64 0]) ∧ w' = w := by
  refine (chain_c hA.1 x.id).mono ?_
  rintro e w' ⟨rfl, h⟩
  rcases h with ⟨_, h⟩ | ⟨z, hz, h1, h2⟩
  · exact absurd rfl (h x.cn (List.mem_map.2 ⟨x, hx, rfl⟩))
  · obtain ⟨y, hy, rfl⟩ := List.mem_map.1 hz
    obtain rfl : y = x := nodup_id hA.ids hy hx h1
    exact ⟨h2, rfl⟩
set_option maxRecDepth 20000 in
set_option maxHeartbeats 1600000 in
theorem putT_c {g q : Nat} {K : List Rn} {T : Nat → Prop} {w : World} (hA : RAt g q K T w) (x : Rn) (hx : x ∈ K) (s : Value) : Calls Try.prog 10 #[ptrV g, .int .i64 x.id.toInt, s] w fun e w' => e = .returned (.int .i64 12) ∧ w' = w := by
  obtain ⟨tag, nb, sb, L, N, S, nd, sp, H, I, hC, hO⟩ := hA.1
  obtain ⟨es, c0, kb, M⟩ := H.kn
  have kh := H.c
  have hxc : x.cn ∈ L.map An.cn := hC ▸ List.mem_map.2 ⟨x, hx, rfl⟩
  obtain ⟨p, hp, hpx⟩ := List.mem_map.1 hxc
  have hpid : p.id = x.id := congrArg Cn.id hpx
  have hsome : lkp x.id N = some p.a := lkp_of_mem M.nodup (I.N.mem_iff.2 (List.mem_map.2 ⟨p, hp, by rw [← hpid]⟩))
  have hlk : (Instr.lookup 52 (.map (some nb)) (.int .i64 x.id.toInt) false).run Try.prog w = .ok (ptrV p.a) w := by
    have h1 := M.lookup idT Try.underlying52 (z := .pointer none) (fun w => by kernel_rfl) w kb x.id false
    rw [hsome] at h1
    exact h1
  clear H I hO M hxc hpx hpid hsome hC hp hx hA
  go_enter Try.func10, Try.ntmps10
  go_wp2_with fail
  go_at_call 23
  refine (there_c kh).mono ?_
  rintro e w2 ⟨rfl, rfl⟩
  go_wp2_with fail
  go_ret
  exact ⟨rfl, rfl⟩
/-- A graph that is not there, or that no call made. -/
def VAt (w : World) (v : Value) : Prop := v = .pointer none ∨ ∃ b y z, v = ptrV b ∧ w.heap[b]? = some (.cells #[.map none, y, z] 55 (0, 0))
theorem VAt.mod0 {w w' : World} {v : Value} (h : VAt w v) (hm : Mod (fun _ => False) w w') : VAt w' v := h.imp _root_.id fun ⟨b, y, z, e, k⟩ => ⟨b, y, z, e, hm.at0 k⟩
theorem there_V {w : World} {v : Value} (h : VAt w v) : Calls Try.prog 23 #[v] w fun e w' => e = .returned (.bool false) ∧ w' = w := by
  rcases h with rfl | ⟨b, y, z, rfl, k⟩
  · exact there_nil w
  · exact there_void k
theorem putV_c {w : World} {v : Value} (h : VAt w v) (id : Int64) (s : Value) : Calls Try.prog 10 #[v, .int .i64 id.toInt, s] w fun e w' => e = .returned (.int .i64 2) ∧ w' = w := by
  have ht := there_V h
  clear h
  go_enter Try.func10, Try.ntmps10
  go_wp2_with fail
  go_at_call 23
  refine ht.mono ?_
  rintro e w2 ⟨rfl, rfl⟩
  clear ht
  go_wp2_with fail
  go_ret
  exact ⟨rfl, rfl⟩
theorem popV_c {w : World} {v : Value} (h : VAt w v) (id : Int64) : Calls Try.prog 16 #[v, .int .i64 id.toInt] w fun e w' => e = .returned (.int .i64 2) ∧ w' = w := by
  have ht := there_V h
  clear h
  go_enter Try.func16, Try.ntmps16
  go_wp2_with fail
  go_at_call 23
  refine ht.mono ?_
  rintro e w2 ⟨rfl, rfl⟩
  clear ht
  go_wp2_with fail
  go_ret
  exact ⟨rfl, rfl⟩
theorem chainV_c {w : World} {v : Value} (h : VAt w v) (id : Int64) : Calls Try.prog 11 #[v, .int .i64 id.toInt] w fun e w' => e = .returned (.tuple #[.int .i64 0, .int .i64 2]) ∧ w' = w := by
  have ht := there_V h
  clear h
  go_enter Try.func11, Try.ntmps11
  go_wp2_with fail
  go_at_call 23
  refine ht.mono ?_
  rintro e w2 ⟨rfl, rfl⟩
  clear ht
  go_wp2_with fail
  exact bodyPost_ret (results_tmp2 rfl _ _ _) rfl ⟨rfl, rfl⟩
theorem lenV_c {w : World} {v : Value} (h : VAt w v) : Calls Try.prog 19 #[v] w fun e w' => e = .returned (.int .i64 0) ∧ w' = w := by
  have ht := there_V h
  clear h
  go_enter Try.func19, Try.ntmps19
  go_wp2_with fail
  go_at_call 23
  refine ht.mono ?_
  rintro e w2 ⟨rfl, rfl⟩
  clear ht
  go_wp2_with fail
  go_ret
  exact ⟨rfl, rfl⟩
theorem readyV_c {w : World} {v : Value} (h : VAt w v) : Calls Try.prog 13 #[v] w fun e w' => e = .returned (.slice none 0 0) ∧ w' = w := by
  have ht := there_V h
  clear h
  go_enter Try.func13, Try.ntmps13
  go_wp2_with fail
  go_at_call 23
  refine ht.mono ?_
  rintro e w2 ⟨rfl, rfl⟩
  clear ht
  go_wp2_with fail
  go_ret
  exact ⟨rfl, rfl⟩
end Go.Proofs.Ytffcnnogkpdinaa
