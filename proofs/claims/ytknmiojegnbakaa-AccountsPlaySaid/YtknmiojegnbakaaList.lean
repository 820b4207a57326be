/- The walk of List. -/
import Derived.Test.YtknmiojegnbakaaSort1
namespace Go.Proofs.Ytknmiojegnbakaa
open Go.RowKit
open Go.ChangeMaps (setBlock)
set_option linter.unusedSimpArgs false
set_option linter.unusedVariables false
attribute [local go_sem ↓] wlKey ldKey stKey wlAcct ldAcct stAcct wlHold ldHold stHold eqKey1 eqAcct eqHold
attribute [local go_sem] eqMap neMap av_size av_c av_s av_c' av_s' av_o av_all av_one hd_size hd_key hd_acct hd_all hd_one zKey_size zAcct_size zHold_size cell_blk frozen_blk kc_ext one_int one_bool one_ptr one_slice one_map kc_one kc_one0 kc_size Value.cells
theorem sq_bld {P : Program} {ops : Array Oper} {Q : Exit → Act → World → Prop} {i : Nat} {r : List Nat} {a : Act} {o : Oper} {w : World} {v : Value} {T : TypeId} {ps : Array (Nat × Operand)} {qs : Array (Nat × Value)} (ho : ops[i]? = some o) (hw : Region.wanted o (yielded ops a.tmps) = true)
    (hop : o.op = .build T ps) (hps : ps.map (fun (i, x) => (i, a.eval x)) = qs) (hr : (Instr.build T qs).run P w = .ok v w) (h : wpOps P ops Q r (a.put o.dst v) w) : wpOps P ops Q (i :: r) a w :=
  sq_val ho hw (by subst hps; simp [execOp, hop, hr]) h
def toH (p : Key × Acct) : Hold := ⟨p.1, p.2⟩
theorem room1 {α : Type} {l : List α} {x : α} (h : l.length ≤ 900000) : l.length + [x].length ≤ 1000000 := by
  simp only [List.length_cons, List.length_nil]
  omega
abbrev cmpV : Value := .func (.func 27) #[] #[]
/-- Holdings of one row are sorted. -/
def SortOk (S : List Hold → Prop) (m : List (Key × Acct)) : Prop := ∀ (a : Option Addr) (c : Nat) (l : List Hold) (w : World), l.Perm (m.map toH) → SlAt hd 66 w a l → Fz w a →
  Calls Try.prog 26 #[.slice a l.length c, cmpV] w fun e w' => e = .returned (.tuple #[]) ∧ ∃ l' : List Hold, l'.Perm l ∧ S l' ∧ SlAt hd 66 w' a l' ∧ Fz w' a ∧ Mod (fun i => ∃ o, a = some ⟨i, o, none⟩) w w'
theorem sortOk1 {m : List (Key × Acct)} (h : m.length ≤ 1) : SortOk (fun l => l.length ≤ 1) m := fun a c l w hp hs hf => by
  have hl : l.length ≤ 1 := by
    rw [hp.length_eq, List.length_map]
    exact h
  refine (sort_1 cmpV cmpV a l.length c hl w).mono ?_
  rintro e w' ⟨rfl, rfl⟩
  exact ⟨rfl, l, .refl _, hl, hs, hf, Mod.refl _ _⟩
theorem clip_c (v v2 : Value) (w : World) (n : Nat) {a : Option Addr} {c : Nat} (hv : v = .slice a n c) (h : ∀ w2, (Instr.sliceAt 35 v none (some (.int .i64 (n : Int))) (some (.int .i64 (n : Int)))).run Try.prog w2 = .ok v2 w2) :
    Calls Try.prog 29 #[v] w fun e w' => e = .returned v2 ∧ w' = w := by
  subst hv
  go_enter Try.func29, Try.ntmps29
  go_wp2_with fail
  go_ret
  exact ⟨rfl, rfl⟩
theorem oneNew (w : World) (h : Hold) : SlAt hd 66 (w.alloc (.cells (hd h) 38)) (some ⟨w.heap.size, 0, none⟩) [h] := by
  have hb := heap_alloc_new w (.cells (hd h) 38)
  exact SlAt.one hb h rfl (hd_size h)
set_option maxRecDepth 20000 in
theorem bsHold (h : Hold) (w : World) : (Instr.buildSlice 35 1 #[(0, .agg (hd h))]).run Try.prog w = .ok (.slice (some ⟨w.heap.size, 0, none⟩) 1 1) (w.alloc (.cells (hd h) 38)) := by
  obtain ⟨i0, z, hi, hz, hz1, hz2, hz3⟩ := holdT.info
  refine run_buildSlice w _ _ 1 _ _ i0 _ Try.underlying35 hi hz (by rw [hz1]; omega) (by rw [hz1]; omega) ?_
  rw [hz1]
  show Instr.fill _ _ [(0, Value.agg (hd h))] = _
  rw [fill_cons (off := 0) (n := 66) rfl (show ((Value.agg (hd h)).cells).size = 66 from hd_size _) (by simp)]
  show some (wr _ 0 _) = _
  rw [wr_whole _ _ (by simp [Value.cells, hd_size])]
  rfl
set_option maxRecDepth 20000 in
set_option maxHeartbeats 1600000 in
theorem list_c (p b : Nat) (m : List (Key × Acct)) (S : List Hold → Prop) (hso : SortOk S m) (w : World) (h : StAt w p b m) (hlen : m.length ≤ 900000) : Calls Try.prog 11 #[.pointer (some ⟨p, 0, none⟩)] w fun e w' => ∃ a l, e = .returned (.slice a l.length l.length) ∧ l.Perm (m.map toH) ∧ S l ∧ SlAt hd 66 w' a l ∧ Fz w' a ∧ (∀ x, a = some x → w.heap.size ≤ x.block) ∧ Mod (fun _ => False) w w' := by
  obtain ⟨kp, es, ck, kb, M⟩ := id h
  have H := Lib.hid h
  have HSO := Lib.hid hso
  clear h hso
  have hrg := run_range_map (P := Try.prog) w 26 28 31 b es ck Try.underlying26 kb
  go_enter Try.func11, Try.ntmps11
  go_wp2_with fail
  go_at_call 25
  refine (there_c p b m _ H.out).mono ?_
  rintro e w2 ⟨rfl, rfl⟩
  go_wp2_with fail
  obtain ⟨w2, rb, hrb, kr, m2, e2⟩ : ∃ w2 rb, w.heap.size = rb ∧ w2.heap[rb]? = some (.mapIter (some b) ck #[] ck) ∧ Mod (fun _ => False) w w2 ∧ w2 = w.alloc (.mapIter (some b) ck #[] ck) := ⟨_, _, rfl, heap_alloc_new _ _, (Mod.refl _ _).alloc _, rfl⟩
  have hs2 : rb + 1 ≤ w2.heap.size := by
    have := lt_size kr
    omega
  rw [← e2, hrb]
  have hrb2 : w.heap.size ≤ rb := by omega
  have hit := IterAt.start M kr
  have kb2 := m2.at0 kb
  have hbw := (H.out.lt).2.1
  clear e2 hrb hrg kb kr
  go_loopw [2, 3, 4] (fun s2 s3 s4 ws => ∃ (l : List Hold) (rem : List (Key × Acct)), SlOwn hd 66 38 ws (rb + 1) s2 l ∧ Hid ((l ++ rem.map toH).Perm (m.map toH)) ∧ IterAt ws rb b kv avv es ck rem ∧ Mod (fun _ => False) w ws ∧ ws.heap[b]? = some (.map es ck) ∧ Hid (rb + 1 ≤ ws.heap.size)) (fun _ _ _ ws => leftN ws rb b)
  case atStart => exact ⟨[], m, SlOwn.nil _ _, Lib.hid (by simp), hit, m2, kb2, Lib.hid hs2⟩
  case round =>
    clear hit kb2 m2 w2 hs2
    obtain ⟨l, rem, hO, HP, hit, hm, kb, HZ⟩ := hrel
    have hmeas := hit.leftN kb
    have HL := Lib.hid hmeas
    clear hmeas
    rcases hit.next (P := Try.prog) M kb 0 with ⟨rfl, hrun⟩ | ⟨q, rem', w3, it, hperm, hrun, kr3, m3, kb3, hent⟩
    · have hP2 : l.Perm (m.map toH) := by simpa using HP.out
      obtain ⟨a, c, rfl, hcl, hsl, hbk, hfz⟩ := clip_own holdT hO
      have hcall := HSO.out a c l wr hP2 hsl hfz
      have HC := Lib.hid hcall
      have HCL := Lib.hid hcl
      have HB := Lib.hid hbk
      have HP2 := Lib.hid hP2
      clear hit HL kb M HP hO HSO hP2 hsl hcall hcl hbk hfz
      go_wp2_with fail
      go_at_call 26
      refine HC.out.mono ?_
      rintro e w4 ⟨rfl, l', hp4, hS4, hs4, hf4, m4⟩
      have HN := Lib.hid hp4.length_eq.symm
      have HP4 := Lib.hid hp4
      clear hp4
      go_wp2_with fail
      go_at_call 29
      refine (clip_c _ _ _ l.length rfl HCL.out).mono ?_
      rintro e w5 ⟨rfl, rfl⟩
      go_wp2_with fail
      go_ret
      refine ⟨a, l', by first | rfl | (rw [HN.out]; rfl), HP4.out.trans HP2.out, hS4, hs4, hf4, fun x hx => by have := (HB.out x hx).1; omega, hm.then m4 ?_⟩
      rintro i hi ⟨o, rfl⟩
      have := (HB.out _ rfl).1
      dsimp only at this
      omega
    · obtain ⟨qk, qa⟩ := q
      have hlen2 := hperm.length_eq
      have HP2 : Hid (((l ++ [(⟨qk, qa⟩ : Hold)]) ++ rem'.map toH).Perm (m.map toH)) := Lib.hid (by
        refine .trans ?_ HP.out
        rw [List.append_assoc]
        exact ((hperm.map toH).symm).append_left l)
      have hll : l.length ≤ 900000 := by
        have := HP.out.length_eq
        simp only [List.length_append, List.length_map] at this
        omega
      have mm := hm.thenB m3 (.inl hrb2)
      have hO3 := hO.mod m3 (fun i hi e => by have := (hO.lt i hi).1; omega)
      obtain ⟨a, c, rfl, _, _, _⟩ := hO3.at holdT
      have HO := Lib.hid hO3
      have HZ3 : Hid (rb + 1 ≤ w3.heap.size) := Lib.hid (Nat.le_trans HZ.out m3.size)
      have HE : Hid (∀ wq, Mod (fun _ => False) w3 wq → (Instr.entry (.pointer (some ⟨rb, 0, none⟩))).run Try.prog wq = .ok (.tuple #[.agg (kc qk), .agg (av qa)]) wq) := Lib.hid fun wq hm => (hent wq (hm.at0 kr3) (hm.at0 kb3)).1
      have HI := Lib.hid hent
      have HL2 := Lib.hid hll
      have hrun2 : (Instr.next (.pointer (some ⟨rb, 0, none⟩)) false 0).run Try.prog wr = .ok (.tuple #[.bool true, .agg (kc qk), .agg (av qa)]) w3 := hrun
      clear hperm hit hent hm m3 hrun kb hO hO3 HP HSO HZ hll
      go_upto_region 5 with fail
      have hent2 := HE.out
      have Lkr3 := lt_size kr3
      have Lkb3 := lt_size kb3
      refine wp_pass0 (C := fun _ _ _ => False) (κ := fun i => [1, 0, 0, 3, 3, 4, 4].getD i 0) [0, 1, 2, 3, 4, 5, 6] (by kernel_rfl) (by kernel_rfl) (fun _ _ d _ _ h => by cases d <;> exact h) ?_
      (refine TD.entry (v := ?v1) (p := ?p1) (Mod.refl _ _) (by simp only [List.getElem?_toArray, List.getElem?_cons_succ, List.getElem?_cons_zero]; rfl) rfl ?hw1 rfl ?hx1 (fun wq hSq => ?hy1) ?hn1; (case hw1 => rfl); (case hx1 => (simp only [Act.eval, Array.getD_eq_getD_getElem?, List.getElem?_toArray, List.getElem?_cons_succ, List.getElem?_cons_zero, Option.getD_some]; (try rfl))); (case hy1 => (rw [hent2 wq hSq]; (try with_reducible rfl))); (try simp only [Act.put, List.setIfInBounds_toArray, List.set_cons_zero, List.set_cons_succ]))
      (refine TD.val0 (v := ?v2) (by simp only [List.getElem?_toArray, List.getElem?_cons_succ, List.getElem?_cons_zero]; rfl) rfl ?hw2 (fun w1 => ?hy2) ?hn2; (case hw2 => rfl); (case hy2 => (go_simp; (try with_reducible rfl))); (try simp only [Act.put, List.setIfInBounds_toArray, List.set_cons_zero, List.set_cons_succ]))
      (refine TD.val0 (v := ?v3) (by simp only [List.getElem?_toArray, List.getElem?_cons_succ, List.getElem?_cons_zero]; rfl) rfl ?hw3 (fun w1 => ?hy3) ?hn3; (case hw3 => rfl); (case hy3 => (go_simp; (try with_reducible rfl))); (try simp only [Act.put, List.setIfInBounds_toArray, List.set_cons_zero, List.set_cons_succ]))
      (refine TD.allocB (by simp only [List.getElem?_toArray, List.getElem?_cons_succ, List.getElem?_cons_zero]; rfl) rfl ?hw4 rfl rfl alKey (fun p3 hp3 => ?hn4); (case hw4 => rfl); (try simp only [Act.put, List.setIfInBounds_toArray, List.set_cons_zero, List.set_cons_succ]))
      (refine TD.allocB (by simp only [List.getElem?_toArray, List.getElem?_cons_succ, List.getElem?_cons_zero]; rfl) rfl ?hw5 rfl rfl alAcct (fun p4 hp4 => ?hn5); (case hw5 => rfl); (try simp only [Act.put, List.setIfInBounds_toArray, List.set_cons_zero, List.set_cons_succ]))
      obtain ⟨ne_p4_p3, hp4⟩ := Bx.set_none hp4
      (refine TD.storeB (d := ?d6) (T := ?T6) (y := ?y6) (p := ?p6) (b := ?b6) (v := ?v6) (by simp only [List.getElem?_toArray, List.getElem?_cons_succ, List.getElem?_cons_zero]; rfl) rfl ?hw6 ?hd6 ?hop6 ?hev6 ?hx6 ?hb6 ?htag6 (fun w1 hb1 => ?hy6) ?hn6; (case hw6 => rfl); (case hd6 => rfl); (case hop6 => rfl); (case hev6 => (simp only [Act.eval, Array.getD_eq_getD_getElem?, List.getElem?_toArray, List.getElem?_cons_succ, List.getElem?_cons_zero, Option.getD_some]; (try rfl))); (case hx6 => (simp only [Act.eval, Array.getD_eq_getD_getElem?, List.getElem?_toArray, List.getElem?_cons_succ, List.getElem?_cons_zero, Option.getD_some]; (try rfl))); (case hb6 => first | exact Bx.set_same _ _ _ | (simp only [Bx.set_ne _ (Ne.symm ne_p4_p3), Bx.set_ne _ ne_p4_p3, Bx.set_same]; rfl)); (case hy6 => (go_simp; (try with_reducible rfl))); (try simp only [Act.put, List.setIfInBounds_toArray, List.set_cons_zero, List.set_cons_succ]))
      (refine TD.storeB (d := ?d7) (T := ?T7) (y := ?y7) (p := ?p7) (b := ?b7) (v := ?v7) (by simp only [List.getElem?_toArray, List.getElem?_cons_succ, List.getElem?_cons_zero]; rfl) rfl ?hw7 ?hd7 ?hop7 ?hev7 ?hx7 ?hb7 ?htag7 (fun w1 hb1 => ?hy7) ?hn7; (case hw7 => rfl); (case hd7 => rfl); (case hop7 => rfl); (case hev7 => (simp only [Act.eval, Array.getD_eq_getD_getElem?, List.getElem?_toArray, List.getElem?_cons_succ, List.getElem?_cons_zero, Option.getD_some]; (try rfl))); (case hx7 => (simp only [Act.eval, Array.getD_eq_getD_getElem?, List.getElem?_toArray, List.getElem?_cons_succ, List.getElem?_cons_zero, Option.getD_some]; (try rfl))); (case hb7 => first | exact Bx.set_same _ _ _ | (simp only [Bx.set_ne _ (Ne.symm ne_p4_p3), Bx.set_ne _ ne_p4_p3, Bx.set_same]; rfl)); (case hy7 => (go_simp; (try with_reducible rfl))); (try simp only [Act.put, List.setIfInBounds_toArray, List.set_cons_zero, List.set_cons_succ]))
      refine TD.nil (fun w4 hr => ?_)
      have kr3 := hr.mod.at kr3 (fun h => h)
      have kb3 := hr.mod.at kb3 (fun h => h)
      have kp3 := hr.box p3 _ (by first | exact Bx.set_same _ _ _ | (simp only [Bx.set_ne _ (Ne.symm ne_p4_p3), Bx.set_ne _ ne_p4_p3, Bx.set_same]; rfl)); dsimp only [Value.cells] at kp3; obtain ⟨gp3, kp3⟩ := kp3
      have kp4 := hr.box p4 _ (by first | exact Bx.set_same _ _ _ | (simp only [Bx.set_ne _ (Ne.symm ne_p4_p3), Bx.set_ne _ ne_p4_p3, Bx.set_same]; rfl)); dsimp only [Value.cells] at kp4; obtain ⟨gp4, kp4⟩ := kp4
      clear hent2 HE
      have mm := mm.then0 hr.mod
      have hO4 := HO.out.mod0 hr.mod
      have hs4 := hr.mod.size
      have hbl := buildHold qk qa
      have hbs := bsHold ⟨qk, qa⟩ w4
      have mal := (Mod.refl (fun _ => False) w4).alloc (.cells (hd ⟨qk, qa⟩) 38)
      have hone : SlAt hd 66 (w4.alloc (.cells (hd ⟨qk, qa⟩) 38)) (some ⟨w4.heap.size, 0, none⟩) [⟨qk, qa⟩] := oneNew w4 _
      obtain ⟨v5, w5, hap, hO5, m5, hn5⟩ := SlOwn.append holdT (q := [(⟨qk, qa⟩ : Hold)]) (c := 1) (hO4.mod0 mal) hone (room1 HL2.out) (by decide) (Nat.le_trans (Nat.le_trans HZ3.out hs4) mal.size) 35
      have hap : (Builtin.append_ #[35, 35] 35 #[.slice a l.length c, .slice (some ⟨w4.heap.size, 0, none⟩) 1 1]).run Try.prog _ = _ := hap
      have hol := hO4.lt
      have mm5 : Mod (fun _ => False) w w5 := (mm.then0 mal).then m5 (fun i hi e => by have := hol i e; omega)
      have HO5 := Lib.hid hO5
      go_upto_region 6 with fail
      refine region_seq 7 rfl ?_
      simp only [List.range, List.range.loop]
      (refine sq_val (v := ?v8) (by simp only [List.getElem?_toArray, List.getElem?_cons_succ, List.getElem?_cons_zero]; rfl) ?hw8 ?hy8 ?hn8; (case hw8 => rfl); (case hy8 => (go_simp; (try with_reducible rfl))); (try simp only [Act.put, List.setIfInBounds_toArray, List.set_cons_zero, List.set_cons_succ]))
      (refine sq_load (v := ?v9) (p := ?p9) (by simp only [List.getElem?_toArray, List.getElem?_cons_succ, List.getElem?_cons_zero]; rfl) ?hw9 rfl ?hx9 ?hy9 ?hn9; (case hw9 => rfl); (case hx9 => (simp only [Act.eval, Array.getD_eq_getD_getElem?, List.getElem?_toArray, List.getElem?_cons_succ, List.getElem?_cons_zero, Option.getD_some]; (try rfl))); (case hy9 => (go_simp; (try with_reducible rfl))); (try simp only [Act.put, List.setIfInBounds_toArray, List.set_cons_zero, List.set_cons_succ]))
      (refine sq_load (v := ?v10) (p := ?p10) (by simp only [List.getElem?_toArray, List.getElem?_cons_succ, List.getElem?_cons_zero]; rfl) ?hw10 rfl ?hx10 ?hy10 ?hn10; (case hw10 => rfl); (case hx10 => (simp only [Act.eval, Array.getD_eq_getD_getElem?, List.getElem?_toArray, List.getElem?_cons_succ, List.getElem?_cons_zero, Option.getD_some]; (try rfl))); (case hy10 => (go_simp; (try with_reducible rfl))); (try simp only [Act.put, List.setIfInBounds_toArray, List.set_cons_zero, List.set_cons_succ]))
      (refine sq_bld (by simp only [List.getElem?_toArray, List.getElem?_cons_succ, List.getElem?_cons_zero]; rfl) ?hw11 rfl ?hx11 (hbl _) ?hn11; (case hw11 => rfl); (case hx11 => (simp only [List.map_toArray, List.map_cons, List.map_nil, Act.eval, Array.getD_eq_getD_getElem?, List.getElem?_toArray, List.getElem?_cons_succ, List.getElem?_cons_zero, Option.getD_some]; (try rfl))); (try simp only [Act.put, List.setIfInBounds_toArray, List.set_cons_zero, List.set_cons_succ]))
      (refine sq_build (by simp only [List.getElem?_toArray, List.getElem?_cons_succ, List.getElem?_cons_zero]; rfl) ?hw12 rfl ?hx12 hbs ?hn12; (case hw12 => rfl); (case hx12 => (simp only [List.map_toArray, List.map_cons, List.map_nil, Act.eval, Array.getD_eq_getD_getElem?, List.getElem?_toArray, List.getElem?_cons_succ, List.getElem?_cons_zero, Option.getD_some]; (try rfl))); (try simp only [Act.put, List.setIfInBounds_toArray, List.set_cons_zero, List.set_cons_succ]))
      (refine sq_append (by simp only [List.getElem?_toArray, List.getElem?_cons_succ, List.getElem?_cons_zero]; rfl) ?hw13 rfl ?hx13 ?hz13 hap ?hn13; (case hw13 => rfl); (case hx13 => (simp only [Act.eval, Array.getD_eq_getD_getElem?, List.getElem?_toArray, List.getElem?_cons_succ, List.getElem?_cons_zero, Option.getD_some]; (try rfl))); (case hz13 => (simp only [Act.eval, Array.getD_eq_getD_getElem?, List.getElem?_toArray, List.getElem?_cons_succ, List.getElem?_cons_zero, Option.getD_some]; (try rfl))); (try simp only [Act.put, List.setIfInBounds_toArray, List.set_cons_zero, List.set_cons_succ]))
      (refine sq_val (v := ?v14) (by simp only [List.getElem?_toArray, List.getElem?_cons_succ, List.getElem?_cons_zero]; rfl) ?hw14 ?hy14 ?hn14; (case hw14 => rfl); (case hy14 => (go_simp; (try with_reducible rfl))); (try simp only [Act.put, List.setIfInBounds_toArray, List.set_cons_zero, List.set_cons_succ]))
      refine sq_nil ?_
      clear hap hbl hbs hone
      have m5' := ((Mod.refl (fun i => (Value.slice a l.length c).ownBlock = some i) w4).then0 mal).then m5 (fun i hi e => e)
      have kr5 := m5'.at kr3 (fun e => by have := hol rb e; omega)
      have kb5 := m5'.at kb3 (fun e => by have := hol b e; omega)
      have hit' := (HI.out _ kr5 kb5).2
      have hm6 := hit'.leftN kb5
      have hs5 := m5'.size
      have HZ5 : Hid (rb + 1 ≤ w5.heap.size) := Lib.hid (Nat.le_trans (Nat.le_trans HZ3.out hs4) hs5)
      clear hol m5 m5' mal
      go_wp2_with fail
      go_roundw
      case rel => exact ⟨l ++ [⟨qk, qa⟩], rem', HO5.out, HP2, hit', mm5, kb5, HZ5⟩
      case measure =>
        rw [hm6, HL.out]
        simp at hlen2
        omega
end Go.Proofs.Ytknmiojegnbakaa
