/- The lemmas of the proof, part 5: how the program and its data lie in memory, and what its functions do. -/
import Derived.Test.YtofpnmoeimjnnaaK4
namespace Go.Proofs.Ytofpnmoeimjnnaa
open Go.RowKit
open Go.ChangeMaps (setBlock)
set_option linter.unusedSimpArgs false
set_option linter.unusedVariables false
attribute [local go_sem ↓] wlKey ldKey stKey wlAcct ldAcct stAcct wlHold ldHold stHold wlHash ldHash stHash wlSig ldSig stSig wlLim ldLim stLim wlRdy ldRdy stRdy wlOut ldOut stOut wlTd ldTd stTd wlTx ldTx stTx eqKey1
attribute [local go_sem] eqMap neMap av_size av_all av_one hd_size hd_key hd_acct hd_all hd_one zKey_size zAcct_size zHold_size zHash_size zSg_size zLim_size zRdy_size zOut_size zTried_size zTx_size cell_blk frozen_blk kc_ext one_int one_bool one_ptr one_slice one_map kc_one kc_one0 kc_size sgc_size sgc_ext sgc_one0 sgc_one' rdr_size rdr_all rdr_one rdr_tx rdr_rec rdr0 rdr1 rdr6 rdr39 rdr40 rdr41 rdr0' rdr1' rdr6' rdr39' rdr40' rdr41' ocr_size ocr_all ocr_one ocr2 ocr3 ocr4 ocr5 ocr2' ocr3' ocr4' ocr5' tdr_size tdr_all tdr_one tdr_r tdr_o tdr_tx tdr_rec tdr0 tdr1 tdr41 tdr50 tdr51 tdr52 tdr53 tdr0' tdr1' tdr41' tdr50' tdr51' tdr52' tdr53' txr_size txr_all txr_one txr0 txr38 txr39 txr0' txr38' txr39' Value.cells
theorem eff_callX {P : Program} {ops : Array Oper} {Q : Exit → Act → World → Prop} {κ : Nat → Nat} {i : Nat} {r : List Nat} {a : Act} {o : Oper} {w : World} {f : FuncId} {args : Array Value} {Post : World → Prop} (ho : ops[i]? = some o) (hw : Region.wanted o (yielded ops a.tmps) = true)
    (hy : (execOp a.eval o).run P w = .ok (.enter f args) w) (hc : Calls P f args w fun e w' => (∃ v, e = .returned v) ∧ Post w') (hn : ∀ v w', Post w' → TE P ops Q κ r (a.put o.dst v) w') : wpOp P ops Q i (fun a' w'' => TE P ops Q κ r a' w'') a w := by
  unfold wpOp
  simp only [ho, hw, if_true]
  refine .inl ?_
  unfold Oper.wp
  rw [hy]
  refine hc.mono ?_
  rintro e w' ⟨⟨v, rfl⟩, hp⟩
  exact hn v w' hp
def RcOk (w : World) (x : TdR) : Prop := VOk w x ∧ SlAt hd 66 w x.o.ch.a x.o.ch.l ∧ x.o.ch.l.length ≤ 1000000 ∧ SlAt uc 1 w x.r.b.a x.r.b.l
theorem RcOk.mod0 {w w' : World} {x : TdR} (h : RcOk w x) (hm : Mod (fun _ => False) w w') : RcOk w' x := ⟨h.1.mod0 hm, h.2.1.mod0 hm, h.2.2.1, h.2.2.2.mod0 hm⟩
def RIn (Tn Tr : Nat → Prop) (B p b s : Nat) (S : BS) (l : List TdR) (i : Nat) (vs : List Nat) (k : Nat) (v : Value) (w : World) : Prop :=
  ∃ (S1 : BS) (ent : List UInt8) (Tn1 Tr1 : Nat → Prop), RRun S (l.take i) vs ent k S1 ∧ BkAt Tn1 Tr1 w b s S1 ∧ (SlOwn uc 1 5 w B v ent ∧ ∀ g, v.ownBlock = some g → ¬ Tn1 g ∧ ¬ Tr1 g) ∧ ∀ j, Tn1 j ∨ Tr1 j → j ≠ p ∧ (Tn j ∨ Tr j ∨ B ≤ j) ∧ j < w.heap.size
def RecP (Tn Tr : Nat → Prop) (b s : Nat) (S : BS) (l : List TdR) (w : World) (e : Ending) (w' : World) : Prop :=
  ∃ (g : Nat) (vs : List Nat) (S1 : BS) (ent : List UInt8) (k : Nat) (Tn1 Tr1 : Nat → Prop), e = .returned (.slice (some ⟨g, 0, none⟩) l.length l.length) ∧ w.heap.size ≤ g ∧ w'.heap[g]? = some (.cells (errC vs) 62 (0, 0)) ∧ RRun S l vs ent k S1 ∧
    BkAt Tn1 Tr1 w' b s (if k = 0 then S1 else { S1 with es := S1.es ++ [leB k.toUInt64 ++ ent] }) ∧ (∀ j, Tn1 j ∨ Tr1 j → j ≠ g ∧ (Tn j ∨ Tr j ∨ w.heap.size ≤ j) ∧ j < w'.heap.size) ∧ Mod (fun i => Tn i ∨ Tr i) w w'
def OutL (b0 : Nat) (o : OcR) (l : List OcR) (v : Value) : Land := fun T w => ∃ o2 : OcR, o2.pl = o.pl ∧ NewL hd 66 155 b0 o2.ch.l o2.ch.v T w ∧ OwnL ocr 6 64 0 (l ++ [o2]) v T w
theorem goodOut (b0 : Nat) (o : OcR) (l : List OcR) (v : Value) : Good (OutL b0 o l v) := Good.ex fun o2 => (Good.pure _).and ((goodN _ _ _ _ _ _).and (goodOL _ _ _ _ _ _))
theorem app_out {T : Nat → Prop} {w : World} {v : Value} {l : List OcR} {o o2 : OcR} {b0 p : Nat} {U : TypeId} {fr : Nat × Nat} (hO : OwnL ocr 6 64 0 l v T w) (hc : OcL b0 o (.agg (ocr o2)) T w) (kp : w.heap[p]? = some (.cells (ocr o2) U fr)) (hlen : l.length + 1 ≤ 1000000) (ty : TypeId) :
    ∃ v' w', (Builtin.append_ #[78, 78] ty #[v, .slice (some ⟨p, 0, none⟩) 1 1]).run Try.prog w = .ok v' w' ∧ Mod T w w' ∧ OutL b0 o l v' (Grow T w w') w' := by
  obtain ⟨o3, he, hp, hN⟩ := hc
  have he' : ocr o2 = ocr o3 := by injection he
  rw [he'] at kp
  obtain ⟨v', w', hap, hO', m', hn'⟩ := SlOwn.append outT (q := [o3]) (c := 1) hO.1 (SlAt.one kp o3 rfl (ocr_size _)) (by simpa using hlen) (by decide) (Nat.zero_le _) ty
  have hlt := m'.size
  refine ⟨v', w', hap, m'.mono (fun i _ h => hO.2 i h), o3, hp, ⟨hN.1.mod m' ?_, fun g hg => .inl (hN.2 g hg)⟩, hO', ?_⟩
  · intro g hg h
    obtain ⟨C, kc⟩ := own_blk hO.1 h
    exact newE_ne hN.1 kc (by decide) g hg rfl
  · intro g hg
    rcases hn' with h | h
    · exact .inl (hO.2 g (h ▸ hg))
    · have := (hO'.lt g hg).2
      rw [hg] at h
      have h2 : g = w.heap.size := Option.some.inj h
      exact .inr ⟨by omega, this⟩
theorem NewS.slAt {α : Type} {f : α → Array Value} {n : Nat} {E : TypeId} {b k c : Nat} {w : World} {a : Option Addr} {l : List α} (h : NewS f n E b w (.slice a k c) l) : SlAt f n w a l := by
  obtain ⟨a', e, h1, _⟩ := h.at
  injection e with e1
  exact e1 ▸ h1
theorem own_slAt {w : World} {b k c : Nat} {a : Option Addr} {l : List UInt8} (h : SlOwn uc 1 5 w b (.slice a k c) l) : SlAt uc 1 w a l ∧ k = l.length := by
  obtain ⟨a', c', e, h1, _⟩ := h.at bytesT
  injection e with e1 e2 e3
  exact ⟨e1 ▸ h1, e2⟩
def EntL (b0 : Nat) (l : List (Sl UInt8)) (e : List UInt8) (v : Value) : Land := fun T w => ∃ x : Sl UInt8, x.l = e ∧ OwnL uc 1 5 b0 x.l x.v T w ∧ OwnL slv 1 45 0 (l ++ [x]) v T w
theorem goodEnt (b0 : Nat) (l : List (Sl UInt8)) (e : List UInt8) (v : Value) : Good (EntL b0 l e v) := Good.ex fun x => (Good.pure _).and ((goodOL _ _ _ _ _ _).and (goodOL _ _ _ _ _ _))
theorem app_ent {T : Nat → Prop} {w : World} {v : Value} {l : List (Sl UInt8)} {e : List UInt8} {b0 p n c : Nat} {a : Option Addr} {U : TypeId} {fr : Nat × Nat} (hO : OwnL slv 1 45 0 l v T w) (hc : OwnL uc 1 5 b0 e (.slice a n c) T w) (kp : w.heap[p]? = some (.cells #[.slice a n c] U fr)) (hlen : l.length + 1 ≤ 1000000) (ty : TypeId) :
    ∃ v' w', (Builtin.append_ #[77, 77] ty #[v, .slice (some ⟨p, 0, none⟩) 1 1]).run Try.prog w = .ok v' w' ∧ Mod T w w' ∧ EntL b0 l e v' (Grow T w w') w' := by
  have hn := (own_slAt hc.1).2
  subst hn
  obtain ⟨v', w', hap, hO', m', hn'⟩ := SlOwn.append slsT (q := [(⟨a, e, c⟩ : Sl UInt8)]) (c := 1) hO.1 (SlAt.one kp (⟨a, e, c⟩ : Sl UInt8) rfl rfl) (by simpa using hlen) (by decide) (Nat.zero_le _) ty
  have hlt := m'.size
  refine ⟨v', w', hap, m'.mono (fun i _ h => hO.2 i h), ⟨a, e, c⟩, rfl, ⟨hc.1.mod m' ?_, fun g hg => .inl (hc.2 g hg)⟩, hO', ?_⟩
  · intro g hg h
    obtain ⟨C, kc⟩ := own_blk hO.1 h
    exact ownE_ne hc.1 kc (by decide) g hg rfl
  · intro g hg
    rcases hn' with h | h
    · exact .inl (hO.2 g (h ▸ hg))
    · have := (hO'.lt g hg).2
      rw [hg] at h
      have h2 : g = w.heap.size := Option.some.inj h
      exact .inr ⟨by omega, this⟩
set_option maxRecDepth 20000 in
set_option maxHeartbeats 12800000 in
theorem record_c {Tn Tr : Nat → Prop} {b s : Nat} {S : BS} (a : Option Addr) (l : List TdR) (c : Nat) (w0 w : World) (hk : BkAt Tn Tr w b s S) (hl : SlAt tdr 54 w0 a l) (hv : ∀ x ∈ l, RcOk w0 x) (hm0 : Mod (fun _ => False) w0 w) (hlo : ∀ i, Tn i ∨ Tr i → w0.heap.size ≤ i ∧ i < w.heap.size)
    (hN : S.N.length + l.length ≤ 900000) (hos : S.os.length + l.length ≤ 900000) (hby : (l.map (fun x => x.r.b.l.length)).sum ≤ 900000) (hes : S.es.length ≤ 900000) (hn : l.length ≤ 100000) :
    Calls Try.prog 8 #[ptrV b, .slice a l.length c] w fun e w' => RecP Tn Tr b s S l w e w' := by
  have hmk := mkErr l.length hn
  have HL := Lib.hid (And.intro hl (And.intro hv (And.intro hm0 hlo)))
  have HK := Lib.hid hk
  have HB := Lib.hid (And.intro hN (And.intro hos (And.intro hby hes)))
  have hb0 : ∃ q n t ea en ec oa on oc, w.heap[b]? = some (.cells (blkC s q n t S.en ea en ec oa on oc S.fees) 80 (0, 0)) := by
    obtain ⟨q, n, t, m, ea, en, ec, oa, on, oc, er, orr, h⟩ := hk.in
    exact ⟨q, n, t, ea, en, ec, oa, on, oc, h.1⟩
  obtain ⟨q, n, t, ea, en, ec, oa, on, oc, kb0⟩ := hb0
  clear hl hv hm0 hlo hk hN hos hby hes
  generalize hll : l.length = ll at *
  have HLL := Lib.hid hll
  clear hll
  go_enter Try.func8, Try.ntmps8
  go_upto_region 1 with fail
  refine wp_pass0 (C := fun _ _ _ => False) (κ := fun i => [0, 0, 3, 0].getD i 0) [0, 1, 2, 3] (by kernel_rfl) (by kernel_rfl) (fun _ _ d _ _ h => by cases d <;> first | exact h | exact absurd h (hP _ _ _)) ?_
  (refine TD.val0 (v := ?v1) (by simp only [zA, zB, zC]; rfl) rfl ?hw1 (fun w1 => ?hy1) ?hn1; (case hw1 => rfl); (case hy1 => (go_simp; (try with_reducible rfl))); (try simp only [Act.put, zF, zG, zH]))
  (refine TD.val0 (v := ?v2) (by simp only [zA, zB, zC]; rfl) rfl ?hw2 (fun w1 => ?hy2) ?hn2; (case hw2 => rfl); (case hy2 => (go_simp; (try with_reducible rfl))); (try simp only [Act.put, zF, zG, zH]))
  (refine TD.mks (by simp only [zA, zB, zC]; rfl) rfl ?hw3 rfl rfl ?hx3 ?hz3 hmk (fun p13 hp13 => ?hn3); (case hw3 => rfl); (case hx3 => (simp only [Act.eval, zD, zA, zB, zC, zE]; (try rfl))); (case hz3 => (simp only [Act.eval, zD, zA, zB, zC, zE]; (try rfl))); (try simp only [Act.put, zF, zG, zH]))
  (refine TD.val0 (v := ?v4) (by simp only [zA, zB, zC]; rfl) rfl ?hw4 (fun w1 => ?hy4) ?hn4; (case hw4 => rfl); (case hy4 => (go_simp; (try with_reducible rfl))); (try simp only [Act.put, zF, zG, zH]))
  refine TD.nil (fun w1 hr => ?_)
  have kp13 := hr.box p13 _ (by first | exact Bx.set_same _ _ _ | (simp only [Bx.set_same]; rfl)); dsimp only [Value.cells] at kp13; obtain ⟨gp13, kp13⟩ := kp13
  clear hmk
  have m1 := hr.mod
  clear hr
  go_wp2_with fail
  go_at_call 33
  refine (bthere_c _ (m1.at0 kb0)).mono ?_
  rintro e w2 ⟨rfl, rfl⟩
  clear kb0
  have HK1 := Lib.hid (HK.out.mod0 m1)
  have HM1 := Lib.hid (And.intro m1 m1.size)
  have HLT : Hid (∀ j, Tn j ∨ Tr j → j ≠ p13 ∧ j < w1.heap.size) := Lib.hid (fun j hj => by
    have h1 := (HL.out.2.2.2 j hj).2
    have h2 := m1.size
    exact ⟨by omega, by omega⟩)
  clear m1
  go_wp2_with fail
  go_loopw [7, 8, 29] (fun s7 s8 s29 ws => ∃ (i : Nat) (vs : List Nat) (k : Nat) (vE : Value), vE = s7 ∧ i ≤ ll ∧ k ≤ i ∧ vs.length = i ∧ s8 = .int .u64 (k : Int) ∧ s29 = .int .i64 (i : Int) ∧ Hid (RIn Tn Tr w1.heap.size p13 b s S l i vs k vE ws) ∧ ws.heap[p13]? = some (.cells (errC (vs ++ List.replicate (ll - i) 0)) 62 (0, 0)) ∧ Hid (Mod (fun i => Tn i ∨ Tr i ∨ i = p13) w1 ws)) (fun _ _ s29 _ => ll - (intOf s29).toNat)
  case atStart => exact ⟨0, [], 0, _, rfl, by omega, by omega, rfl, rfl, rfl, Lib.hid ⟨S, [], Tn, Tr, by rw [List.take_zero]; exact .nil S, HK1.out, ⟨SlOwn.nil _ _, fun g hg => by cases hg⟩, fun j hj => ⟨(HLT.out j hj).1, by rcases hj with h | h <;> simp [h], (HLT.out j hj).2⟩⟩, by simpa using kp13, Lib.hid (Mod.refl _ _)⟩
  case round =>
    obtain ⟨i, vs, k, vE, rfl, hi, hki, hvs, rfl, rfl, HR, kq, HM⟩ := hrel
    clear kp13
    have HM0 : Hid (Mod (fun _ => False) w0 wr) := Lib.hid ((HL.out.2.2.1.then0 HM1.out.1).then HM.out (fun j hj e => by
      have h1 := HL.out.2.2.1.size
      have h2 := gp13
      rcases e with e | e | e
      · have := (HL.out.2.2.2 j (.inl e)).1
        omega
      · have := (HL.out.2.2.2 j (.inr e)).1
        omega
      · omega))
    by_cases hlt : i < ll
    · obtain ⟨x, hx⟩ : ∃ x, l[i]? = some x := ⟨_, List.getElem?_eq_getElem (by rw [HLL.out]; exact hlt)⟩
      obtain ⟨g, o, C, U, fr, rfl, kl, he, hle⟩ := td_at (HL.out.1.mod0 HM0.out) hx
      have HOK : Hid (RcOk wr x) := Lib.hid ((HL.out.2.1 x (List.mem_of_getElem? hx)).mod0 HM0.out)
      have HX : Hid (l.take (i + 1) = l.take i ++ [x]) := Lib.hid (by rw [List.take_add_one, hx]; rfl)
      clear hx
      obtain ⟨S1, ent, Tn1, Tr1, hrun, hbk, hent, hlo1⟩ := HR.out
      obtain ⟨q1, n1, t1, m1, ea1, en1, ec1, oa1, on1, oc1, er1, or1, hbi⟩ := hbk.in
      have HRUN := Lib.hid hrun
      have HBI := Lib.hid hbi
      have HENT := Lib.hid hent
      have HLO := Lib.hid hlo1
      clear hrun hbk hent hlo1 hbi HR
      obtain ⟨vd, hvd⟩ : ∃ vd, vdN S1.en S1.H S1.N S1.L S1.b S1.sp S1.m x = vd := ⟨_, rfl⟩
      have HVD := Lib.hid hvd
      clear hvd
      have hs : (errC (vs ++ List.replicate (ll - i) 0)).size = ll := by rw [errC_size]; simp; omega
      have hset : (errC (vs ++ List.replicate (ll - i) 0)).setIfInBounds i (.int .i64 (vd : Int)) = errC ((vs ++ [vd]) ++ List.replicate (ll - (i + 1)) 0) := by
        refine (errC_set _ i vd).trans ?_
        congr 1
        obtain ⟨d, hd⟩ : ∃ d, ll = i + 1 + d := ⟨ll - (i + 1), by omega⟩
        rw [hd, show i + 1 + d - i = d + 1 by omega, show i + 1 + d - (i + 1) = d by omega, List.set_append_right _ _ (by omega), hvs, Nat.sub_self, List.replicate_succ, zG, List.append_assoc]
        rfl
      have hget : (errC ((vs ++ [vd]) ++ List.replicate (ll - (i + 1)) 0))[i]? = some (.int .i64 (vd : Int)) := errC_get (by rw [List.getElem?_append_left (by simp; omega), List.getElem?_append_right (by omega), hvs, Nat.sub_self]; rfl)
      have hs2 : (errC ((vs ++ [vd]) ++ List.replicate (ll - (i + 1)) 0)).size = ll := by rw [errC_size]; simp; omega
      obtain ⟨E2, hE2⟩ : ∃ E2, E2 = errC ((vs ++ [vd]) ++ List.replicate (ll - (i + 1)) 0) := ⟨_, rfl⟩
      obtain ⟨E, hE⟩ : ∃ E, E = errC (vs ++ List.replicate (ll - i) 0) := ⟨_, rfl⟩
      rw [← hE2] at hset hget hs2
      rw [← hE] at hs hset kq
      have HEE := Lib.hid (And.intro hE hE2)
      have KQR := Lib.hid kq
      clear hE hE2
      have HS := Lib.hid hset
      clear hset
      go_upto_region 13 with fail
      have Lkl := lt_size kl
      have Lkq := lt_size kq
      refine wp_pass0 (C := fun _ _ _ => False) (κ := fun i => [0, 0, 1, 3, 0, 4].getD i 0) [0, 1, 2, 3, 4, 5] (by kernel_rfl) (by kernel_rfl) (fun _ _ d _ _ h => by cases d <;> first | exact h | exact absurd h (hP _ _ _)) ?_
      (refine TD.val0 (v := ?v5) (by simp only [zA, zB, zC]; rfl) rfl ?hw5 (fun w1 => ?hy5) ?hn5; (case hw5 => rfl); (case hy5 => (go_simp; (try with_reducible rfl))); (try simp only [Act.put, zF, zG, zH]))
      (refine TD.val0 (v := ?v6) (by simp only [zA, zB, zC]; rfl) rfl ?hw6 (fun w1 => ?hy6) ?hn6; (case hw6 => rfl); (case hy6 => (go_simp; (try with_reducible rfl))); (try simp only [Act.put, zF, zG, zH]))
      (refine TD.load (v := ?v7) (p := ?p7) (Mod.refl _ _) (by simp only [zA, zB, zC]; rfl) rfl ?hw7 rfl ?hx7 (fun wq hSq => ?hy7) ?hn7; (case hw7 => rfl); (case hx7 => (simp only [Act.eval, zD, zA, zB, zC, zE]; (try rfl))); (case hy7 => (have klq := hSq.at kl (fun h => h); have kqq := hSq.at kq (fun h => h); go_simp; (try with_reducible rfl))); (try simp only [Act.put, zF, zG, zH]))
      (refine TD.allocB (by simp only [zA, zB, zC]; rfl) rfl ?hw8 rfl rfl alTd (fun p10 hp10 => ?hn8); (case hw8 => rfl); (try simp only [Act.put, zF, zG, zH]))
      (refine TD.val0 (v := ?v9) (by simp only [zA, zB, zC]; rfl) rfl ?hw9 (fun w1 => ?hy9) ?hn9; (case hw9 => rfl); (case hy9 => (go_simp; (try with_reducible rfl))); (try simp only [Act.put, zF, zG, zH]))
      (refine TD.storeB (d := ?d10) (T := ?T10) (y := ?y10) (p := ?p10) (b := ?b10) (v := ?v10) (by simp only [zA, zB, zC]; rfl) rfl ?hw10 ?hd10 ?hop10 ?hev10 ?hx10 ?hb10 ?htag10 (fun w1 hb1 => ?hy10) ?hn10; (case hw10 => rfl); (case hd10 => rfl); (case hop10 => rfl); (case hev10 => (simp only [Act.eval, zD, zA, zB, zC, zE]; (try rfl))); (case hx10 => (simp only [Act.eval, zD, zA, zB, zC, zE]; (try rfl))); (case hb10 => first | exact Bx.set_same _ _ _ | (simp only [Bx.set_same]; rfl)); (case hy10 => (go_simp; (try first | with_reducible rfl | (rw [setCell_blk hb1]; rfl)))); (try simp only [Act.put, zF, zG, zH]))
      refine TD.nil (fun w3 hr => ?_)
      replace kl := hr.mod.at kl (fun h => h)
      replace kq := hr.mod.at kq (fun h => h)
      have kp10 := hr.box p10 _ (by first | exact Bx.set_same _ _ _ | (simp only [Bx.set_same]; rfl)); dsimp only [Value.cells] at kp10; obtain ⟨gp10, kp10⟩ := kp10
      have hm3 := hr.mod
      clear hr
      go_wp2_with fail
      go_at_call 34
      refine (verdict_c x _ (hm3.at0 HBI.out.1) (HBI.out.2.1.1.mod0 hm3) (HBI.out.2.1.2.1.mod0 hm3) (HBI.out.2.1.2.2.mod0 hm3) (HOK.out.1.mod0 hm3)).mono ?_
      rintro e w4 ⟨rfl, hV⟩
      rw [HVD.out] at hV
      rw [HVD.out]
      by_cases hv0 : vd = 0
      · obtain ⟨⟨done, hdone, hT4⟩, m4⟩ : AddPost t1 m1 S1.L S1.b S1.sp S1.m (coX x) x.o.sp (wrL x.r.ro.l) w3 w4 := by
          rcases hV with h | h
          · exact absurd hv0 h.1
          · exact h.2
        have HV0 := Lib.hid hv0
        clear hV hv0
        have HD := Lib.hid (And.intro hdone hT4)
        have HTM : Hid (t1 < wr.heap.size ∧ m1 < wr.heap.size ∧ b < wr.heap.size ∧ b ≠ t1 ∧ b ≠ m1 ∧ p13 ≠ t1 ∧ p13 ≠ m1 ∧ p13 ≠ b ∧ ¬ (Value.slice oa1 on1 oc1).ownBlock = some b ∧ ¬ (Value.slice oa1 on1 oc1).ownBlock = some p13) := Lib.hid (by
          obtain ⟨kb, ⟨hq, hn, ht⟩, ⟨he1, he2, he3⟩, ⟨ho1, ho2, ho3⟩, ⟨u1, u2, u3, u4, u5⟩, ⟨v1, v2, v3, v4⟩, hd⟩ := HBI.out
          obtain ⟨kt, es, cl, km, M⟩ := ht
          refine ⟨lt_size kt, lt_size km, lt_size kb, ?_, ne_of_obj kb km (by simp), ?_, ?_, ?_, fun h => ownE_ne ho1 kb (by decide) _ h rfl, fun h => (HLO.out p13 (.inr (v2 _ h))).1 rfl⟩
          · intro h
            rw [h, kt] at kb
            injection (Option.some.inj kb) with h1 h2
            exact absurd h2 (by decide)
          · exact fun h => (HLO.out t1 (.inr u2)).1 h.symm
          · exact fun h => (HLO.out m1 (.inr u3)).1 h.symm
          · exact fun h => (HLO.out b (.inr u1)).1 h.symm)
        have HRS : Hid (∀ j, RcS Tn1 b t1 m1 p13 oa1 on1 oc1 j → w0.heap.size ≤ j ∧ (Tn j ∨ Tr j ∨ j = p13 ∨ w1.heap.size ≤ j)) := Lib.hid (by
          have h1 : ∀ j, Tn1 j ∨ Tr1 j ∨ j = p13 → w0.heap.size ≤ j ∧ (Tn j ∨ Tr j ∨ j = p13 ∨ w1.heap.size ≤ j) := fun j hj => by
            have g1 := HL.out.2.2.1.size
            have g2 := HM1.out.2
            have g3 := gp13
            have h2 : ∀ j, Tn1 j ∨ Tr1 j → w0.heap.size ≤ j ∧ (Tn j ∨ Tr j ∨ j = p13 ∨ w1.heap.size ≤ j) := fun j hj => by
              rcases (HLO.out j hj).2.1 with h | h | h
              · exact ⟨(HL.out.2.2.2 j (.inl h)).1, .inl h⟩
              · exact ⟨(HL.out.2.2.2 j (.inr h)).1, .inr (.inl h)⟩
              · exact ⟨by omega, .inr (.inr (.inr h))⟩
            rcases hj with h | h | h
            · exact h2 j (.inl h)
            · exact h2 j (.inr h)
            · exact ⟨by omega, .inr (.inr (.inl h))⟩
          obtain ⟨kb, _, _, _, ⟨u1, u2, u3, u4, u5⟩, ⟨v1, v2, v3, v4⟩, hd⟩ := HBI.out
          rintro j (h | rfl | rfl | rfl | h | rfl)
          · exact h1 j (.inl h)
          · exact h1 j (.inr (.inl u1))
          · exact h1 j (.inr (.inl u2))
          · exact h1 j (.inr (.inl u3))
          · exact h1 j (.inr (.inl (v2 _ h)))
          · exact h1 j (.inr (.inr rfl)))
        have HOKF : Hid (∀ wk, Mod (RcS Tn1 b t1 m1 p13 oa1 on1 oc1) wr wk → RcOk wk x) := Lib.hid (fun wk h => by
          have h0 : RcOk w0 x := HL.out.2.1 x (by
            have := HX.out
            exact List.mem_of_mem_take (i := i + 1) (by rw [this]; simp))
          exact h0.mod0 (HM0.out.then h (fun j hj e => by have := (HRS.out j e).1; omega)))
        have kq := m4.at kq (by have := HTM.out; omega)
        have kb := hm3.at0 HBI.out.1
        have kb := m4.at kb (by have := HTM.out; omega)
        unfold blkC at kb
        have kp10 := m4.at kp10 (by have := HTM.out; omega)
        have hm4 : Mod (fun j => j = t1 ∨ j = m1 ∨ j = p13) wr w4 := (hm3.mono (fun _ _ h => h.elim)).trans (m4.mono (fun j _ h => by rcases h with h | h <;> simp [h]))
        clear kl he m4 hm3
        have kp13' := kq
        clear hdone hT4
        go_upto_region 15 with fail
        rw [setCell_blk kq, HS.out]
        have hbp : b ≠ p13 := fun h => HTM.out.2.2.2.2.2.2.2.1 h.symm
        have h10p : p10 ≠ p13 := by have := lt_size KQR.out; omega
        obtain ⟨w5, kq5, m5, e5⟩ : ∃ w5, w5.heap[p13]? = some (.cells E2 62 (0, 0)) ∧ Mod (fun i => i = p13) w4 w5 ∧ w5 = setBlock w4 p13 (.cells E2 62 (0, 0)) := ⟨_, heap_setBlock _ _ (lt_size kq), mod_set _ _ _, rfl⟩
        rw [← e5]
        have hT5 := HD.out.2.mod m5 (fun h => HTM.out.2.2.2.2.2.1 h.symm) (fun h => HTM.out.2.2.2.2.2.2.1 h.symm)
        have kb := m5.at_ne kb hbp
        have kp10 := m5.at_ne kp10 h10p
        have hm5 := hm4.trans (m5.mono (fun j _ h => by simp [h]))
        clear e5 m5 kq hs hs2 kp13' hm4
        have Lkq5 := lt_size kq5
        have Lkb := lt_size kb
        have Lkp10 := lt_size kp10
        refine wp_pass0 (C := fun _ _ _ => False) (κ := fun i => [0, 0, 0, 1, 0].getD i 0) [0, 1, 2, 3, 4] (by kernel_rfl) (by kernel_rfl) (fun _ _ d _ _ h => by cases d <;> first | exact h | exact absurd h (hP _ _ _)) ?_
        (refine TD.val0 (v := ?v11) (by simp only [zA, zB, zC]; rfl) rfl ?hw11 (fun w1 => ?hy11) ?hn11; (case hw11 => rfl); (case hy11 => (go_simp; (try with_reducible rfl))); (try simp only [Act.put, zF, zG, zH]))
        (refine TD.val0 (v := ?v12) (by simp only [zA, zB, zC]; rfl) rfl ?hw12 (fun w1 => ?hy12) ?hn12; (case hw12 => rfl); (case hy12 => (go_simp; (try with_reducible rfl))); (try simp only [Act.put, zF, zG, zH]))
        (refine TD.val0 (v := ?v13) (by simp only [zA, zB, zC]; rfl) rfl ?hw13 (fun w1 => ?hy13) ?hn13; (case hw13 => rfl); (case hy13 => (go_simp; (try with_reducible rfl))); (try simp only [Act.put, zF, zG, zH]))
        (refine TD.load (v := ?v14) (p := ?p14) (Mod.refl _ _) (by simp only [zA, zB, zC]; rfl) rfl ?hw14 rfl ?hx14 (fun wq hSq => ?hy14) ?hn14; (case hw14 => rfl); (case hx14 => (simp only [Act.eval, zD, zA, zB, zC, zE]; (try rfl))); (case hy14 => (have kq5q := hSq.at kq5 (fun h => h); have kbq := hSq.at kb (fun h => h); have kp10q := hSq.at kp10 (fun h => h); go_simp; (try with_reducible rfl))); (try simp only [Act.put, zF, zG, zH]))
        (refine TD.val0 (v := ?v15) (by simp only [zA, zB, zC]; rfl) rfl ?hw15 (fun w1 => ?hy15) ?hn15; (case hw15 => rfl); (case hy15 => (go_simp; (try with_reducible rfl))); (try simp only [Act.put, zF, zG, zH]))
        refine TD.nil (fun w6 hr => ?_)
        replace kq5 := hr.mod.at kq5 (fun h => h)
        replace kb := hr.mod.at kb (fun h => h)
        replace kp10 := hr.mod.at kp10 (fun h => h)
        have hm6 := hm5.trans (hr.mod.mono (fun _ _ h => h.elim))
        have HT6 := Lib.hid (hT5.mod0 hr.mod)
        have HSE := Lib.hid (HBI.out.2.1.2.1.mod hm6 (fun j hj e => by
          have hh := HBI.out
          have h1 := hh.2.2.2.2.2.2 j hj
          rcases e with rfl | rfl | rfl
          · exact h1 hh.2.2.2.2.1.2.1
          · exact h1 hh.2.2.2.2.1.2.2.1
          · exact (HLO.out _ (.inl hj)).1 rfl))
        have HOO6 : Hid (SlOwn ocr 6 64 w6 0 (.slice oa1 on1 oc1) or1) := Lib.hid (by
          have hh := HBI.out
          obtain ⟨kt, es, cl, km, M⟩ := hh.2.1.2.2
          have ho := hh.2.2.2.1.1
          refine ho.mod hm6 ?_
          rintro g hg (h | h | h)
          · exact ownE_ne ho kt (by decide) g hg h
          · exact own_ne ho km g hg h
          · exact (HLO.out p13 (.inr (hh.2.2.2.2.2.1.2.1 p13 (h ▸ hg)))).1 rfl)
        have HM6 : Hid (Mod (RcS Tn1 b t1 m1 p13 oa1 on1 oc1) wr w6) := Lib.hid (hm6.mono (fun j _ h => by rcases h with h | h | h <;> simp [h, RcS]))
        clear hr hget hm5 hT5 hm6
        have hne : ((vd : Int) != 0) = false := by rw [HV0.out]; rfl
        go_upto_region 16 with fail
        have Lkb := lt_size kb
        have Lkp10 := lt_size kp10
        have Lkq5 := lt_size kq5
        refine wp_pass (C := fun _ _ v => v = .agg (sgc (firstS x.r.sg.l))) (κ := fun i => [0, 0, 0, 0, 1, 0, 1, 2, 0, 0, 0, 0, 1, 5].getD i 0) [0, 1, 2, 3, 4, 5, 6, 7, 8, 9, 10, 11, 12, 13] (by kernel_rfl) (by kernel_rfl) (fun _ _ d _ _ h => by cases d <;> first | exact h | exact absurd h (hP _ _ _)) ?_
        (refine TD.val0 (v := ?v16) (by simp only [zA, zB, zC]; rfl) rfl ?hw16 (fun w1 => ?hy16) ?hn16; (case hw16 => rfl); (case hy16 => (go_simp; (try with_reducible rfl))); (try simp only [Act.put, zF, zG, zH]))
        (refine TD.val0 (v := ?v17) (by simp only [zA, zB, zC]; rfl) rfl ?hw17 (fun w1 => ?hy17) ?hn17; (case hw17 => rfl); (case hy17 => (go_simp; (try with_reducible rfl))); (try simp only [Act.put, zF, zG, zH]))
        (refine TD.val0 (v := ?v18) (by simp only [zA, zB, zC]; rfl) rfl ?hw18 (fun w1 => ?hy18) ?hn18; (case hw18 => rfl); (case hy18 => (go_simp; (try with_reducible rfl))); (try simp only [Act.put, zF, zG, zH]))
        (refine TD.val0 (v := ?v19) (by simp only [zA, zB, zC]; rfl) rfl ?hw19 (fun w1 => ?hy19) ?hn19; (case hw19 => rfl); (case hy19 => (go_simp; (try with_reducible rfl))); (try simp only [Act.put, zF, zG, zH]))
        (refine TD.load (v := ?v20) (p := ?p20) (Mod.refl _ _) (by simp only [zA, zB, zC]; rfl) rfl ?hw20 rfl ?hx20 (fun wq hSq => ?hy20) ?hn20; (case hw20 => rfl); (case hx20 => (simp only [Act.eval, zD, zA, zB, zC, zE]; (try rfl))); (case hy20 => (have kbq := hSq.at kb (fun h => h); have kp10q := hSq.at kp10 (fun h => h); have kq5q := hSq.at kq5 (fun h => h); go_simp; (try with_reducible rfl))); (try simp only [Act.put, zF, zG, zH]))
        (refine TD.val0 (v := ?v21) (by simp only [zA, zB, zC]; rfl) rfl ?hw21 (fun w1 => ?hy21) ?hn21; (case hw21 => rfl); (case hy21 => (go_simp; (try with_reducible rfl))); (try simp only [Act.put, zF, zG, zH]))
        (refine TD.load (v := ?v22) (p := ?p22) (Mod.refl _ _) (by simp only [zA, zB, zC]; rfl) rfl ?hw22 rfl ?hx22 (fun wq hSq => ?hy22) ?hn22; (case hw22 => rfl); (case hx22 => (simp only [Act.eval, zD, zA, zB, zC, zE]; (try rfl))); (case hy22 => (have kbq := hSq.at kb (fun h => h); have kp10q := hSq.at kp10 (fun h => h); have kq5q := hSq.at kq5 (fun h => h); go_simp; (try with_reducible rfl))); (try simp only [Act.put, zF, zG, zH]))
        (refine TD.call (f := ?f23) (args := ?r23) (Mod.refl _ _) (by simp only [zA, zB, zC]; rfl) rfl ?hw23 (fun w1 => ?hy23) ?hsp23 ?hn23; (case hw23 => rfl); (case hy23 => (go_simp; (first | with_reducible rfl | (constructor <;> with_reducible rfl)))); (case hsp23 => (intro wq hSq; have kbq := hSq.at kb (fun h => h); have kp10q := hSq.at kp10 (fun h => h); have kq5q := hSq.at kq5 (fun h => h); exact (first_c x.r wq (((HOKF.out w6 HM6.out).1.1).mod0 hSq)).mono (fun e w' h => ⟨_, h.1, rfl, h.2⟩))); rintro _ rfl; (try simp only [Act.put, zF, zG, zH]))
        (refine TD.val0 (v := ?v24) (by simp only [zA, zB, zC]; rfl) rfl ?hw24 (fun w1 => ?hy24) ?hn24; (case hw24 => rfl); (case hy24 => (go_simp; (try with_reducible rfl))); (try simp only [Act.put, zF, zG, zH]))
        (refine TD.val0 (v := ?v25) (by simp only [zA, zB, zC]; rfl) rfl ?hw25 (fun w1 => ?hy25) ?hn25; (case hw25 => rfl); (case hy25 => (go_simp; (try with_reducible rfl))); (try simp only [Act.put, zF, zG, zH]))
        (refine TD.val0 (v := ?v26) (by simp only [zA, zB, zC]; rfl) rfl ?hw26 (fun w1 => ?hy26) ?hn26; (case hw26 => rfl); (case hy26 => (go_simp; (try with_reducible rfl))); (try simp only [Act.put, zF, zG, zH]))
        (refine TD.val0 (v := ?v27) (by simp only [zA, zB, zC]; rfl) rfl ?hw27 (fun w1 => ?hy27) ?hn27; (case hw27 => rfl); (case hy27 => (go_simp; (try with_reducible rfl))); (try simp only [Act.put, zF, zG, zH]))
        (refine TD.load (v := ?v28) (p := ?p28) (Mod.refl _ _) (by simp only [zA, zB, zC]; rfl) rfl ?hw28 rfl ?hx28 (fun wq hSq => ?hy28) ?hn28; (case hw28 => rfl); (case hx28 => (simp only [Act.eval, zD, zA, zB, zC, zE]; (try rfl))); (case hy28 => (have kbq := hSq.at kb (fun h => h); have kp10q := hSq.at kp10 (fun h => h); have kq5q := hSq.at kq5 (fun h => h); go_simp; (try with_reducible rfl))); (try simp only [Act.put, zF, zG, zH]))
        refine TD.eff (by simp only [zA, zB, zC]; rfl) rfl (fun w7 hr => ?_)
        replace kb := hr.mod.at kb (fun h => h)
        replace kp10 := hr.mod.at kp10 (fun h => h)
        replace kq5 := hr.mod.at kq5 (fun h => h)
        have m7 := hr.mod
        clear hr
        have HM7 := Lib.hid (HM6.out.then0 m7)
        have m7x := Lib.hid m7
        have hNlen : S1.N.length < 1000000 := by
          have h1 := HRUN.out.len.2.2.1
          have h2 : (l.take i).length ≤ l.length := by rw [List.length_take]; omega
          have h3 := HB.out.1
          have h4 := HLL.out
          omega
        have hmark := mark_c n1 S1.N (firstS x.r.sg.l) x.r.rc w7 (HSE.out.mod0 m7) (fun j hj => by
          have h1 := (HLO.out j (.inl hj)).2.2
          have h2 := HM7.out.size
          omega) hNlen
        have HT7 := Lib.hid (HT6.out.mod0 m7)
        have hTb : ¬ Tn1 b := fun h => HBI.out.2.2.2.2.2.2 b h HBI.out.2.2.2.2.1.1
        have hTp : ¬ Tn1 p13 := fun h => (HLO.out _ (.inl h)).1 rfl
        have hT10 : ¬ Tn1 p10 := fun h => by
          have := (HLO.out _ (.inl h)).2.2
          omega
        (refine eff_callX (by simp only [zA, zB, zC]; rfl) ?hw30 ?hy30 hmark (fun vn wn hP => ?hn30); (case hw30 => rfl); (case hy30 => (go_simp; (try (first | with_reducible rfl | (constructor <;> with_reducible rfl))))); (try simp only [Act.put, zF, zG, zH]))
        refine TE.nil ?_
        obtain ⟨w8, e8⟩ : ∃ w8, w8 = wn := ⟨_, rfl⟩
        rw [← e8] at hP ⊢
        clear e8 hmark m7
        have hs78 := hP.2.size
        replace kb := hP.2.at kb hTb
        replace kp10 := hP.2.at kp10 hT10
        replace kq5 := hP.2.at kq5 hTp
        have HM8 : Hid (Mod (RcS Tn1 b t1 m1 p13 oa1 on1 oc1) wr w8) := Lib.hid (HM7.out.trans (hP.2.mono (fun j _ h => .inl h)))
        have HT8 := Lib.hid (HT7.out.mod hP.2 (fun h => HBI.out.2.2.2.2.2.2 _ h HBI.out.2.2.2.2.1.2.1) (fun h => HBI.out.2.2.2.2.2.2 _ h HBI.out.2.2.2.2.1.2.2.1))
        have HSE8 := Lib.hid (And.intro hP.1 hs78)
        have HOO : Hid (SlOwn ocr 6 64 w8 0 (.slice oa1 on1 oc1) or1) := Lib.hid ((HOO6.out.mod0 m7x.out).mod hP.2 (fun g hg h => HBI.out.2.2.2.2.2.2 g h (HBI.out.2.2.2.2.2.1.2.1 g hg)))
        clear hP hs78 hTb hTp hT10 hNlen
        -- the outcome and the fee
        obtain ⟨W, hW⟩ : ∃ W : Nat → Prop, W = fun j => (Value.slice oa1 on1 oc1).ownBlock = some j := ⟨_, rfl⟩
        have HW := Lib.hid hW
        have nWb : ¬ W b := by rw [hW]; exact HTM.out.2.2.2.2.2.2.2.2.1
        have nWp : ¬ W p13 := by rw [hW]; exact HTM.out.2.2.2.2.2.2.2.2.2
        have hWT : ∀ j, W j → j < wr.heap.size := by
          rw [hW]
          intro j hj
          exact (HLO.out j (.inr (HBI.out.2.2.2.2.2.1.2.1 j hj))).2.2
        have nW10 : ¬ W p10 := fun h => by
          have := hWT _ h
          omega
        have HKK : Hid (OwnL ocr 6 64 0 or1 (.slice oa1 on1 oc1) W w8) := Lib.hid ⟨HOO.out, fun g hg => by rw [hW]; exact hg⟩
        have hWT8 : ∀ j, W j → j < w8.heap.size := fun j hj => Nat.lt_of_lt_of_le (hWT j hj) HM8.out.size
        have HWS : Hid (∀ j, W j → RcS Tn1 b t1 m1 p13 oa1 on1 oc1 j) := Lib.hid (by rw [hW]; exact fun j hj => .inr (.inr (.inr (.inr (.inl hj)))))
        have holen : or1.length + 1 ≤ 1000000 := by
          have h1 := HRUN.out.len.2.2.2.1
          have h2 : (l.take i).length ≤ l.length := by rw [List.length_take]; omega
          have h3 := HB.out.2.1
          have h4 := congrArg List.length HBI.out.2.2.2.1.2.1
          rw [List.length_map] at h4
          have h5 := HLL.out
          omega
        obtain ⟨fz, hfz⟩ : ∃ fz, sat S1.fees x.o.fee = fz := ⟨_, rfl⟩
        have HFZ := Lib.hid hfz
        clear hW hWT hfz
        go_upto_region 17 with fail
        have Lkb := lt_size kb
        have Lkp10 := lt_size kp10
        have Lkq5 := lt_size kq5
        refine wp_region_any (by kernel_rfl) ?_
        change wpAny _ .any _ _ 26 _ _ _
        (refine take_first (i := 1) (v := ?v31) (by simp only [zA, zB, zC]; rfl) (by kernel_rfl) (fun _ _ d _ _ h => by cases d <;> first | exact h | exact absurd h (hP _ _ _)) ?hw31 (fun w1 => ?hy31) ?hn31; (case hw31 => rfl); (case hy31 => (go_simp; (try with_reducible rfl))); (try simp only [Act.put, zF, zG, zH]))
        refine e_anyL (T0 := W) (K := OwnL ocr 6 64 0 or1 (.slice oa1 on1 oc1)) (κ := fun i => [0, 0, 0, 0, 0, 0, 0, 0, 6, 3, 6, 0, 0, 0, 0, 0, 0, 0, 3, 6, 0, 0, 6, 0, 0, 6].getD i 0) (υ := fun i => [[], [], [], [], [], [], [], [], [], [], [68], [], [], [], [], [], [], [], [], [77], [], [], [], [], [], []].getD i []) (fun _ _ d _ _ h => by cases d <;> first | exact h | exact absurd h (hP _ _ _)) [0, 2, 3, 4, 5, 6, 7, 8, 9, 10, 11, 12, 13, 14, 15, 16, 17, 18, 19] [20, 21, 22, 23, 24, 25] (by kernel_rfl) (goodOL ocr 6 64 0 or1 (.slice oa1 on1 oc1)).cl (rg_drew (goodOL ocr 6 64 0 or1 (.slice oa1 on1 oc1)).cl (HKK.out) (hWT8)) ?_
        have gK := goodOL ocr 6 64 0 or1 (.slice oa1 on1 oc1)
        (refine TG.v0 (v := ?v32) (by simp only [zA, zB, zC]; rfl) rfl ?hw32 (fun w1 => ?hy32) ?hn32; (case hw32 => rfl); (case hy32 => (go_simp; (try with_reducible rfl))); (try simp only [Act.put, zF, zG, zH]))
        (refine TG.v0 (v := ?v33) (by simp only [zA, zB, zC]; rfl) rfl ?hw33 (fun w1 => ?hy33) ?hn33; (case hw33 => rfl); (case hy33 => (go_simp; (try with_reducible rfl))); (try simp only [Act.put, zF, zG, zH]))
        (refine TG.v0 (v := ?v34) (by simp only [zA, zB, zC]; rfl) rfl ?hw34 (fun w1 => ?hy34) ?hn34; (case hw34 => rfl); (case hy34 => (go_simp; (try with_reducible rfl))); (try simp only [Act.put, zF, zG, zH]))
        (refine TG.v0 (v := ?v35) (by simp only [zA, zB, zC]; rfl) rfl ?hw35 (fun w1 => ?hy35) ?hn35; (case hw35 => rfl); (case hy35 => (go_simp; (try with_reducible rfl))); (try simp only [Act.put, zF, zG, zH]))
        (refine TG.load (v := ?v36) (p := ?p36) (by simp only [zA, zB, zC]; rfl) rfl ?hw36 rfl ?hx36 (fun wq hSq => ?hy36) ?hn36; (case hw36 => rfl); (case hx36 => (simp only [Act.eval, zD, zA, zB, zC, zE]; (try rfl))); (case hy36 => (have kbq := hSq.at kb (by intro hT; first | exact hT | exact absurd hT (by assumption) | omega | (simp only at hT; omega)); have kp10q := hSq.at kp10 (by intro hT; first | exact hT | exact absurd hT (by assumption) | omega | (simp only at hT; omega)); have kq5q := hSq.at kq5 (by intro hT; first | exact hT | exact absurd hT (by assumption) | omega | (simp only at hT; omega)); go_simp; (try with_reducible rfl))); (try simp only [Act.put, zF, zG, zH]))
        (refine TG.v0 (v := ?v37) (by simp only [zA, zB, zC]; rfl) rfl ?hw37 (fun w1 => ?hy37) ?hn37; (case hw37 => rfl); (case hy37 => (go_simp; (try with_reducible rfl))); (try simp only [Act.put, zF, zG, zH]))
        (refine TG.load (v := ?v38) (p := ?p38) (by simp only [zA, zB, zC]; rfl) rfl ?hw38 rfl ?hx38 (fun wq hSq => ?hy38) ?hn38; (case hw38 => rfl); (case hx38 => (simp only [Act.eval, zD, zA, zB, zC, zE]; (try rfl))); (case hy38 => (have kbq := hSq.at kb (by intro hT; first | exact hT | exact absurd hT (by assumption) | omega | (simp only at hT; omega)); have kp10q := hSq.at kp10 (by intro hT; first | exact hT | exact absurd hT (by assumption) | omega | (simp only at hT; omega)); have kq5q := hSq.at kq5 (by intro hT; first | exact hT | exact absurd hT (by assumption) | omega | (simp only at hT; omega)); go_simp; (try with_reducible rfl))); (try simp only [Act.put, zF, zG, zH]))
        (refine TG.callM (f := ?f39) (args := ?r39) (OcL w8.heap.size x.o) (goodOc w8.heap.size x.o) gK (by simp only [zA, zB, zC]; rfl) rfl ?hw39 (fun w1 => ?hy39) (fun T wq kq ltq hSq ub => ?hsp39) ?hn39; (case hw39 => rfl); (case hy39 => (go_simp; (first | with_reducible rfl | (constructor <;> with_reducible rfl)))); (case hsp39 => (have kbq := hSq.at kb (by intro hT; first | exact hT | exact absurd hT (by assumption) | omega | (simp only at hT; omega)); have kp10q := hSq.at kp10 (by intro hT; first | exact hT | exact absurd hT (by assumption) | omega | (simp only at hT; omega)); have kq5q := hSq.at kq5 (by intro hT; first | exact hT | exact absurd hT (by assumption) | omega | (simp only at hT; omega)); exact (own_c x.o wq ((HOKF.out wq (HM8.out.trans (hSq.mono (fun j _ h => HWS.out j h)))).2.1) ((HOKF.out w8 HM8.out).2.2.1)).mono (fun e w' h => by obtain ⟨o2, h1, h2, h3⟩ := h; exact ⟨_, h1, h3, ocL h2 hSq.size⟩))); rintro v39 ⟨wI, TI, hI⟩; replace gK := gK.and ((goodOc w8.heap.size x.o) v39); obtain ⟨o2, rfl, -⟩ := hI.k.2; (try clear hI TI wI); (try simp only [Act.put, zF, zG, zH]))
        (refine TG.bslice (by simp only [zA, zB, zC]; rfl) rfl ?hw40 rfl rfl ?hx40 (bsOut o2) (fun p68 hp68 _ => ?hn40); (case hw40 => rfl); (case hx40 => (simp only [List.map_toArray, List.map_cons, List.map_nil, Act.eval, zD, zA, zB, zC, zE]; (try rfl))); (try simp only [Act.put, zF, zG, zH]))
        (refine TG.appK (X := ?X41) (Y := ?Y41) (OutL w8.heap.size x.o or1) (goodOut w8.heap.size x.o or1) (by simp only [zA, zB, zC]; rfl) rfl ?hw41 rfl ?hx41 ?hz41 (fun T wq kq ltq hSq ub => ?hy41) ?hn41; (case hw41 => rfl); (case hx41 => (simp only [Act.eval, zD, zA, zB, zC, zE]; (try rfl))); (case hz41 => (simp only [Act.eval, zD, zA, zB, zC, zE]; (try rfl))); (case hy41 => (have kbq := hSq.at kb (by intro hT; first | exact hT | exact absurd hT (by assumption) | omega | (simp only at hT; omega)); have kp10q := hSq.at kp10 (by intro hT; first | exact hT | exact absurd hT (by assumption) | omega | (simp only at hT; omega)); have kq5q := hSq.at kq5 (by intro hT; first | exact hT | exact absurd hT (by assumption) | omega | (simp only at hT; omega)); have kp68 := ub.box (p := p68) (by first | exact Bx.set_same _ _ _ | (simp only [Bx.set_same]; rfl)) (by first | decide | exact List.mem_singleton.2 rfl | simp); dsimp only [Value.cells] at kp68; have nUp68 := (ub p68 _ (by first | exact Bx.set_same _ _ _ | (simp only [Bx.set_same]; rfl)) (by first | decide | exact List.mem_singleton.2 rfl | simp)).1; exact app_out kq.1 kq.2 kp68 holen _)); rintro v41 ⟨wI, TI, hI⟩; replace gK := (goodOut w8.heap.size x.o or1) v41; skip; (try clear hI TI wI); (try simp only [Act.put, zF, zG, zH]))
        (refine TG.v0 (v := ?v42) (by simp only [zA, zB, zC]; rfl) rfl ?hw42 (fun w1 => ?hy42) ?hn42; (case hw42 => rfl); (case hy42 => (go_simp; (try with_reducible rfl))); (try simp only [Act.put, zF, zG, zH]))
        (refine TG.v0 (v := ?v43) (by simp only [zA, zB, zC]; rfl) rfl ?hw43 (fun w1 => ?hy43) ?hn43; (case hw43 => rfl); (case hy43 => (go_simp; (try with_reducible rfl))); (try simp only [Act.put, zF, zG, zH]))
        (refine TG.v0 (v := ?v44) (by simp only [zA, zB, zC]; rfl) rfl ?hw44 (fun w1 => ?hy44) ?hn44; (case hw44 => rfl); (case hy44 => (go_simp; (try with_reducible rfl))); (try simp only [Act.put, zF, zG, zH]))
        (refine TG.load (v := ?v45) (p := ?p45) (by simp only [zA, zB, zC]; rfl) rfl ?hw45 rfl ?hx45 (fun wq hSq => ?hy45) ?hn45; (case hw45 => rfl); (case hx45 => (simp only [Act.eval, zD, zA, zB, zC, zE]; (try rfl))); (case hy45 => (have kbq := hSq.at kb (by intro hT; first | exact hT | exact absurd hT (by assumption) | omega | (simp only at hT; omega)); have kp10q := hSq.at kp10 (by intro hT; first | exact hT | exact absurd hT (by assumption) | omega | (simp only at hT; omega)); have kq5q := hSq.at kq5 (by intro hT; first | exact hT | exact absurd hT (by assumption) | omega | (simp only at hT; omega)); go_simp; (try with_reducible rfl))); (try simp only [Act.put, zF, zG, zH]))
        (refine TG.v0 (v := ?v46) (by simp only [zA, zB, zC]; rfl) rfl ?hw46 (fun w1 => ?hy46) ?hn46; (case hw46 => rfl); (case hy46 => (go_simp; (try with_reducible rfl))); (try simp only [Act.put, zF, zG, zH]))
        (refine TG.v0 (v := ?v47) (by simp only [zA, zB, zC]; rfl) rfl ?hw47 (fun w1 => ?hy47) ?hn47; (case hw47 => rfl); (case hy47 => (go_simp; (try with_reducible rfl))); (try simp only [Act.put, zF, zG, zH]))
        (refine TG.load (v := ?v48) (p := ?p48) (by simp only [zA, zB, zC]; rfl) rfl ?hw48 rfl ?hx48 (fun wq hSq => ?hy48) ?hn48; (case hw48 => rfl); (case hx48 => (simp only [Act.eval, zD, zA, zB, zC, zE]; (try rfl))); (case hy48 => (have kbq := hSq.at kb (by intro hT; first | exact hT | exact absurd hT (by assumption) | omega | (simp only at hT; omega)); have kp10q := hSq.at kp10 (by intro hT; first | exact hT | exact absurd hT (by assumption) | omega | (simp only at hT; omega)); have kq5q := hSq.at kq5 (by intro hT; first | exact hT | exact absurd hT (by assumption) | omega | (simp only at hT; omega)); go_simp; (try with_reducible rfl))); (try simp only [Act.put, zF, zG, zH]))
        (refine TG.bslice (by simp only [zA, zB, zC]; rfl) rfl ?hw49 rfl rfl ?hx49 (bs64 S1.fees x.o.fee) (fun p77 hp77 _ => ?hn49); (case hw49 => rfl); (case hx49 => (simp only [List.map_toArray, List.map_cons, List.map_nil, Act.eval, zD, zA, zB, zC, zE]; (try rfl))); (try simp only [Act.put, zF, zG, zH]))
        obtain ⟨ne_p77_p68, hp77⟩ := Bx.set_none hp77
        (refine TG.callN (f := ?f50) (args := ?r50) (fun v => v = u64v fz) gK (by simp only [zA, zB, zC]; rfl) rfl ?hw50 (fun w1 => ?hy50) (fun T wq kq ltq hSq ub => ?hsp50) ?hn50; (case hw50 => rfl); (case hy50 => (go_simp; (first | with_reducible rfl | (constructor <;> with_reducible rfl)))); (case hsp50 => (have kbq := hSq.at kb (by intro hT; first | exact hT | exact absurd hT (by assumption) | omega | (simp only at hT; omega)); have kp10q := hSq.at kp10 (by intro hT; first | exact hT | exact absurd hT (by assumption) | omega | (simp only at hT; omega)); have kq5q := hSq.at kq5 (by intro hT; first | exact hT | exact absurd hT (by assumption) | omega | (simp only at hT; omega)); have kp77 := ub.box (p := p77) (by first | exact Bx.set_same _ _ _ | (simp only [Bx.set_ne _ (Ne.symm ne_p77_p68), Bx.set_ne _ ne_p77_p68, Bx.set_same]; rfl)) (by first | decide | exact List.mem_singleton.2 rfl | simp); dsimp only [Value.cells] at kp77; have nUp77 := (ub p77 _ (by first | exact Bx.set_same _ _ _ | (simp only [Bx.set_ne _ (Ne.symm ne_p77_p68), Bx.set_ne _ ne_p77_p68, Bx.set_same]; rfl)) (by first | decide | exact List.mem_singleton.2 rfl | simp)).1; exact (wsum_c p77 S1.fees x.o.fee wq kp77).mono (fun e w' h => ⟨_, h.1, by rw [HFZ.out], h.2⟩))); rintro v50 hC; subst hC; (try simp only [Act.put, zF, zG, zH]))
        refine TG.nil (fun w9 ⟨TR, hr⟩ => ?_)
        replace kb := hr.mod.at kb (by intro hT; first | exact hT | exact absurd hT (by assumption) | omega | (simp only at hT; omega))
        replace kp10 := hr.mod.at kp10 (by intro hT; first | exact hT | exact absurd hT (by assumption) | omega | (simp only at hT; omega))
        replace kq5 := hr.mod.at kq5 (by intro hT; first | exact hT | exact absurd hT (by assumption) | omega | (simp only at hT; omega))
        have kp68 := hr.box p68 _ (by first | exact Bx.set_same _ _ _ | (simp only [Bx.set_ne _ (Ne.symm ne_p77_p68), Bx.set_ne _ ne_p77_p68, Bx.set_same]; rfl)); dsimp only [Value.cells] at kp68; obtain ⟨gp68, nTp68, kp68⟩ := kp68
        have kp77 := hr.box p77 _ (by first | exact Bx.set_same _ _ _ | (simp only [Bx.set_ne _ (Ne.symm ne_p77_p68), Bx.set_ne _ ne_p77_p68, Bx.set_same]; rfl)); dsimp only [Value.cells] at kp77; obtain ⟨gp77, nTp77, kp77⟩ := kp77
        clear gK
        obtain ⟨o3, hpl, hNL, hOL⟩ := hr.k
        obtain ⟨oa2, oc2, rfl, -⟩ := hOL.1.at outT
        have m9 := hr.mod
        have HOL := Lib.hid (And.intro hpl (And.intro hNL hOL))
        have HTR : Hid (∀ j, TR j → j < w8.heap.size → W j) := Lib.hid (fun j hj h => hr.old j h hj)
        have hbTR : ∀ j, TR j → j ≠ b := fun j hj e => nWb (hr.old b (by have := HM8.out.size; have := HTM.out.2.2.1; omega) (e ▸ hj))
        have HTRL : Hid (∀ j, TR j → j < w9.heap.size) := Lib.hid hr.lt
        have HBT := Lib.hid hbTR
        obtain ⟨on2, hon2⟩ : ∃ on2, (or1 ++ [o3]).length = on2 := ⟨_, rfl⟩
        have HON := Lib.hid hon2
        rw [hon2]
        have hb10 : p10 ≠ b := by have := HTM.out.2.2.1; omega
        have hb13 : p13 ≠ b := HTM.out.2.2.2.2.2.2.2.1
        clear hr hpl hNL hOL hbTR hon2 kp68 kp77 gp68 gp77 nTp68 nTp77 nWb nWp nW10 hWT8 holen
        (refine TE.val0 (v := ?v51) (by simp only [zA, zB, zC]; rfl) ?hw51 (fun w1 => ?hy51) ?hn51; (case hw51 => rfl); (case hy51 => (go_simp; (try with_reducible rfl))); (try simp only [Act.put, zF, zG, zH]))
        (refine TE.val0 (v := ?v52) (by simp only [zA, zB, zC]; rfl) ?hw52 (fun w1 => ?hy52) ?hn52; (case hw52 => rfl); (case hy52 => (go_simp; (try with_reducible rfl))); (try simp only [Act.put, zF, zG, zH]))
        refine TE.step (by simp only [zA, zB, zC]; rfl) rfl ?_
        (refine eff_store (X := ?X53) (Y := ?Y53) (w' := ?w53) (by simp only [zA, zB, zC]; rfl) ?hw53 rfl ?hx53 ?hz53 ?hy53 ?hn53; (case hw53 => rfl); (case hx53 => (simp only [Act.eval, zD, zA, zB, zC, zE]; (try rfl))); (case hz53 => (simp only [Act.eval, zD, zA, zB, zC, zE]; (try rfl))); (case hy53 => (go_simp; (try with_reducible rfl))))
        (first | refine TE.mid_set kb (fun wn kb mS => ?_) | refine TE.mid_setCell kb (fun wn kb mS => ?_))
        replace kp10 := mS.at_ne kp10 hb10
        replace kq5 := mS.at_ne kq5 hb13
        have mA := mS
        clear mS
        (refine TE.val0 (v := ?v54) (by simp only [zA, zB, zC]; rfl) ?hw54 (fun w1 => ?hy54) ?hn54; (case hw54 => rfl); (case hy54 => (go_simp; (try with_reducible rfl))); (try simp only [Act.put, zF, zG, zH]))
        (refine TE.val0 (v := ?v55) (by simp only [zA, zB, zC]; rfl) ?hw55 (fun w1 => ?hy55) ?hn55; (case hw55 => rfl); (case hy55 => (go_simp; (try with_reducible rfl))); (try simp only [Act.put, zF, zG, zH]))
        refine TE.step (by simp only [zA, zB, zC]; rfl) rfl ?_
        (refine eff_store (X := ?X56) (Y := ?Y56) (w' := ?w56) (by simp only [zA, zB, zC]; rfl) ?hw56 rfl ?hx56 ?hz56 ?hy56 ?hn56; (case hw56 => rfl); (case hx56 => (simp only [Act.eval, zD, zA, zB, zC, zE]; (try rfl))); (case hz56 => (simp only [Act.eval, zD, zA, zB, zC, zE]; (try rfl))); (case hy56 => (go_simp; (try with_reducible rfl))))
        (first | refine TE.nil_set kb (fun wn kb mS => ?_) | refine TE.nil_setCell kb (fun wn kb mS => ?_))
        replace kp10 := mS.at_ne kp10 hb10
        replace kq5 := mS.at_ne kq5 hb13
        have mB := Lib.hid (mA.trans mS)
        obtain ⟨w10, e10⟩ : ∃ w10, w10 = wn := ⟨_, rfl⟩
        rw [← e10] at mB kb kp10 kq5 ⊢
        clear e10 mS mA
        have HM9 := Lib.hid m9
        have HM10 : Hid (Mod (RcS Tn1 b t1 m1 p13 oa1 on1 oc1) wr w10) := Lib.hid ((HM8.out.trans (m9.mono (fun j _ h => HWS.out j h))).trans (mB.out.mono (fun j _ h => .inr (.inl h))))
        have HKB : Hid (w10.heap[b]? = some (.cells (blkC s q1 n1 t1 S1.en ea1 en1 ec1 oa2 on2 oc2 fz) 80 (0, 0))) := Lib.hid kb
        have HSZ : Hid (wr.heap.size ≤ w7.heap.size ∧ w7.heap.size ≤ w8.heap.size ∧ w8.heap.size ≤ w9.heap.size ∧ w9.heap.size ≤ w10.heap.size) := Lib.hid ⟨HM7.out.size, HSE8.out.2, m9.size, mB.out.size⟩
        clear m9 kb
        have HB10 : Hid (∃ (Tn2 Tr2 : Nat → Prop) (S2 : BS), BkAt Tn2 Tr2 w10 b s S2 ∧ RRun S (l.take (i + 1)) (vs ++ [vd]) (ent ++ x.r.b.l) (k + 1) S2 ∧ ∀ j, Tn2 j ∨ Tr2 j → j ≠ p13 ∧ (Tn j ∨ Tr j ∨ w1.heap.size ≤ j) ∧ j < w10.heap.size ∧ vE.ownBlock ≠ some j) := Lib.hid (by
          have hh := HBI.out
          obtain ⟨kb, ⟨hq, hn, ht⟩, ⟨he1, he2, he3⟩, ⟨ho1, ho2, ho3⟩, ⟨u1, u2, u3, u4, u5⟩, ⟨y1, y2, y3, y4⟩, hd⟩ := hh
          obtain ⟨kt, es, cl, km, M⟩ := ht
          have hsz := HSZ.out
          have hWo : ∀ j, W j → (Value.slice oa1 on1 oc1).ownBlock = some j := fun j hj => by rw [HW.out] at hj; exact hj
          have hWr : ∀ j, W j → Tr1 j := fun j hj => y2 j (hWo j hj)
          have hT2 : ∀ j, (Tn1 j ∨ (w7.heap.size ≤ j ∧ j < w8.heap.size)) → ¬ W j ∧ j ≠ b := fun j hj => by
            rcases hj with h | h
            · exact ⟨fun hw => hd j h (hWr j hw), fun e => hd j h (e ▸ u1)⟩
            · refine ⟨fun hw => ?_, fun e => ?_⟩
              · have := (HLO.out j (.inr (hWr j hw))).2.2
                omega
              · have := HTM.out.2.2.1
                omega
          have hWt : ¬ W t1 ∧ ¬ W m1 := ⟨fun h => ownE_ne ho1 kt (by decide) _ (hWo _ h) rfl, fun h => own_ne ho1 km _ (hWo _ h) rfl⟩
          have hTc : ∀ j, TR j → (W j ∧ Tr1 j ∧ j < wr.heap.size) ∨ (w8.heap.size ≤ j ∧ j < w9.heap.size) := fun j hj => by
            by_cases h : j < w8.heap.size
            · have := HTR.out j hj h
              exact .inl ⟨this, hWr j this, (HLO.out j (.inr (hWr j this))).2.2⟩
            · exact .inr ⟨by omega, HTRL.out j hj⟩
          have hoo := HOL.out
          rw [HON.out] at hoo
          have hNlt := hoo.2.1.1.lt
          have hbk := HBI.out.rec (p := p13) (Tn' := fun i => Tn1 i ∨ (w7.heap.size ≤ i ∧ i < w8.heap.size)) HM10.out ⟨fun h => (HLO.out _ (.inr h)).1 rfl, fun h => (HLO.out _ (.inl h)).1 rfl, ?_⟩ HKB.out
            ((HSE8.out.1.mod HM9.out (fun j hj => (hT2 j hj).1)).mod mB.out (fun j hj => (hT2 j hj).2))
            ((HT8.out.mod HM9.out hWt.1 hWt.2).mod mB.out (fun e => HTM.out.2.2.2.1 e.symm) (fun e => HTM.out.2.2.2.2.1 e.symm))
            (hoo.2.2.1.mod mB.out (fun g hg => HBT.out g (hoo.2.2.2 g hg)))
            ((hoo.2.1.1.mod mB.out (fun g hg => HBT.out g (hoo.2.1.2 g hg))).base (Nat.zero_le _))
            (fun g hg => by
              have h1 := (hNlt g hg).1
              refine ⟨by omega, fun h => ?_⟩
              rcases h with h | h
              · have := (HLO.out g (.inl h)).2.2
                omega
              · omega)
            (fun g hg => by
              rcases hTc g (hoo.2.2.2 g hg) with h | h
              · exact .inl (hWo g h.1)
              · refine .inr ⟨by omega, fun h2 => ?_⟩
                rcases h2 with h2 | h2
                · have := (HLO.out g (.inl h2)).2.2
                  omega
                · omega)
            (fun j hj => by
              rcases hj with h | h
              · exact .inl h
              · exact .inr (by omega))
            (fun j hj => (HLO.out j (.inr hj)).2.2)
          · refine ⟨_, _, _, hbk, ?_, ?_⟩
            · rw [HX.out]
              have h := RRun.snoc HRUN.out (x := x) (n := vd) ⟨HVD.out.symm, .inr ⟨HV0.out, done, HD.out.1, rfl⟩⟩
              rw [if_pos HV0.out, if_pos HV0.out] at h
              rw [← HFZ.out, hoo.1]
              exact h
            · have hE : ∀ j, vE.ownBlock = some j → j < wr.heap.size := fun j hj => (HENT.out.1.lt j hj).2
              have h13 : p13 < wr.heap.size := lt_size KQR.out
              have hbd := HM1.out.2
              have key : ∀ j, (Tn1 j ∨ Tr1 j) ∨ (wr.heap.size ≤ j ∧ j < w10.heap.size) → j ≠ p13 ∧ (Tn j ∨ Tr j ∨ w1.heap.size ≤ j) ∧ j < w10.heap.size ∧ vE.ownBlock ≠ some j := fun j hj => by
                rcases hj with h | h
                · have h1 := HLO.out j h
                  refine ⟨h1.1, h1.2.1, by omega, fun e => ?_⟩
                  have := HENT.out.2 j e
                  rcases h with h | h
                  · exact this.1 h
                  · exact this.2 h
                · have := HM.out.size
                  exact ⟨by omega, .inr (.inr (by omega)), h.2, fun e => by have := hE j e; omega⟩
              rintro j ((h | h) | h | h | h)
              · exact key j (.inl (.inl h))
              · exact key j (.inr (by omega))
              · exact key j (.inl (.inr h))
              · have := hNlt j h
                exact key j (.inr (by omega))
              · rcases hTc j (hoo.2.2.2 j h) with h1 | h1
                · exact key j (.inl (.inr h1.2.1))
                · exact key j (.inr (by omega))
          · rintro rfl
            obtain ⟨R, nx, kx, _⟩ := hq
            rw [KQR.out] at kx
            injection (Option.some.inj kx) with h1 h2
            exact absurd h2 (by decide))
        have hvp : ∀ g, vE.ownBlock = some g → g ≠ p13 := ownE_ne HENT.out.1 KQR.out (by decide)
        have HE10 : Hid (SlOwn uc 1 5 w10 w1.heap.size vE ent) := Lib.hid (HENT.out.1.mod HM10.out (fun g hg h => by
          have h1 := HENT.out.2 g hg
          have hh := HBI.out
          obtain ⟨_, _, _, _, ⟨u1, u2, u3, u4, u5⟩, ⟨y1, y2, y3, y4⟩, hd⟩ := hh
          rcases h with h | rfl | rfl | rfl | h | h
          · exact h1.1 h
          · exact h1.2 u1
          · exact h1.2 u2
          · exact h1.2 u3
          · exact h1.2 (y2 _ h)
          · exact hvp g hg h))
        have hlenE : ent.length + x.r.b.l.length ≤ 1000000 := by
          have h1 := HRUN.out.len.2.2.2.2.1
          have h2 := HB.out.2.2.1
          have h3 : ((l.take (i + 1)).map (fun x => x.r.b.l.length)).sum ≤ (l.map (fun x => x.r.b.l.length)).sum := by
            conv => rhs; rw [← List.take_append_drop (i + 1) l]
            rw [List.map_append, List.sum_append]
            omega
          rw [HX.out, List.map_append, List.sum_append] at h3
          simp only [List.map_cons, List.map_nil, List.sum_cons, List.sum_nil] at h3
          omega
        have hslx := (HOKF.out w10 HM10.out).2.2.2
        have hMw : Mod (fun j => Tn j ∨ Tr j ∨ j = p13) w1 w10 := HM.out.then HM10.out (fun j hj e => by
          rcases (HRS.out j e).2 with h | h | h | h
          · exact .inl h
          · exact .inr (.inl h)
          · exact .inr (.inr h)
          · omega)
        obtain ⟨aE, cE, rfl, -⟩ := HE10.out.at bytesT
        have hlo := HE10.out.lt
        have hbE := hMw.size
        have HMW := Lib.hid hMw
        have HVP := Lib.hid (And.intro hvp hlo)
        have HLE := Lib.hid hlenE
        have HSX := Lib.hid hslx
        clear hvp hlo hMw hlenE hslx
        obtain ⟨eN, heN⟩ : ∃ eN, ent.length = eN := ⟨_, rfl⟩
        have HEN := Lib.hid heN
        rw [heN]
        clear heN
        go_upto_region 18 with fail
        have Lkp10 := lt_size kp10
        have Lkq5 := lt_size kq5
        refine wp_pass0 (C := fun _ _ _ => False) (κ := fun i => [0, 0, 0, 1, 5, 0].getD i 0) [0, 1, 2, 3, 4, 5] (by kernel_rfl) (by kernel_rfl) (fun _ _ d _ _ h => by cases d <;> first | exact h | exact absurd h (hP _ _ _)) ?_
        (refine TD.val0 (v := ?v57) (by simp only [zA, zB, zC]; rfl) rfl ?hw57 (fun w1 => ?hy57) ?hn57; (case hw57 => rfl); (case hy57 => (go_simp; (try with_reducible rfl))); (try simp only [Act.put, zF, zG, zH]))
        (refine TD.val0 (v := ?v58) (by simp only [zA, zB, zC]; rfl) rfl ?hw58 (fun w1 => ?hy58) ?hn58; (case hw58 => rfl); (case hy58 => (go_simp; (try with_reducible rfl))); (try simp only [Act.put, zF, zG, zH]))
        (refine TD.val0 (v := ?v59) (by simp only [zA, zB, zC]; rfl) rfl ?hw59 (fun w1 => ?hy59) ?hn59; (case hw59 => rfl); (case hy59 => (go_simp; (try with_reducible rfl))); (try simp only [Act.put, zF, zG, zH]))
        (refine TD.load (v := ?v60) (p := ?p60) (Mod.refl _ _) (by simp only [zA, zB, zC]; rfl) rfl ?hw60 rfl ?hx60 (fun wq hSq => ?hy60) ?hn60; (case hw60 => rfl); (case hx60 => (simp only [Act.eval, zD, zA, zB, zC, zE]; (try rfl))); (case hy60 => (have kp10q := hSq.at kp10 (fun h => h); have kq5q := hSq.at kq5 (fun h => h); go_simp; (try with_reducible rfl))); (try simp only [Act.put, zF, zG, zH]))
        refine TD.eff (by simp only [zA, zB, zC]; rfl) rfl (fun w11 hr => ?_)
        replace kp10 := hr.mod.at kp10 (fun h => h)
        replace kq5 := hr.mod.at kq5 (fun h => h)
        have m11 := hr.mod
        clear hr
        obtain ⟨v12, w12, hap, hO12, m12, hn12⟩ := SlOwn.append bytesT (c := x.r.b.c) (HE10.out.mod0 m11) (HSX.out.mod0 m11) HLE.out (by decide) (Nat.le_trans hbE m11.size) 45
        rw [HEN.out] at hap m12 hn12
        have kq12 : w12.heap[p13]? = some (.cells E2 62 (0, 0)) := m12.at kq5 (fun h => HVP.out.1 _ (by rw [HEN.out]; exact h) rfl)
        have HO12 := Lib.hid hO12
        have HN12 : Hid (v12.ownBlock = (Value.slice aE ent.length cE).ownBlock ∨ v12.ownBlock = some w11.heap.size) := Lib.hid (by rw [HEN.out]; exact hn12)
        have HM12 : Hid (Mod (fun j => (Value.slice aE ent.length cE).ownBlock = some j) w10 w12) := Lib.hid (by
          rw [HEN.out]
          exact (m11.mono (fun _ _ h => h.elim)).trans m12)
        have HM11 := Lib.hid m11.size
        clear hO12 hn12 m12 m11 kp10 kq5
        have hw1 : IntKind.u64.wrap ((k : Int) + 1) = ((k + 1 : Nat) : Int) := by
          rw [IntKind.wrap_u64]
          omega
        (refine eff_append (by simp only [zA, zB, zC]; rfl) ?hw62 rfl ?hx62 ?hz62 hap ?hn62; (case hw62 => rfl); (case hx62 => (simp only [Act.eval, zD, zA, zB, zC, zE]; (try rfl))); (case hz62 => (simp only [Act.eval, zD, zA, zB, zC, zE]; (try rfl))); (try simp only [Act.put, zF, zG, zH]))
        (refine TE.val0 (v := ?v63) (by simp only [zA, zB, zC]; rfl) ?hw63 (fun w1 => ?hy63) ?hn63; (case hw63 => rfl); (case hy63 => (go_simp; (try with_reducible rfl))); (try simp only [Act.put, zF, zG, zH]))
        refine TE.nil ?_
        clear hap
        go_wp2_with fail
        go_roundw
        case rel =>
          refine ⟨i + 1, vs ++ [vd], k + 1, _, rfl, by omega, by omega, by simp [hvs], by go_num, by go_num, Lib.hid ?_, by rw [← HEE.out.2]; exact kq12, Lib.hid (HMW.out.then HM12.out (fun j hj h => by have := (HVP.out.2 j h).1; omega))⟩
          obtain ⟨Tn2, Tr2, S2, hbk, hrun, hlo2⟩ := HB10.out
          have hsz := HM12.out.size
          have h11 := HM11.out
          refine ⟨S2, ent ++ x.r.b.l, Tn2, Tr2, hrun, hbk.mod HM12.out (fun j hj h => (hlo2 j (.inl hj)).2.2.2 h) (fun j hj h => (hlo2 j (.inr hj)).2.2.2 h) ?_, ⟨HO12.out, ?_⟩, fun j hj => ?_⟩
          · intro q c0 c1 c2 kx h
            exact ownE_ne HE10.out kx (by decide) _ h rfl
          · intro g hg
            rcases HN12.out with h | h
            · rw [h] at hg
              exact ⟨fun e => (hlo2 g (.inl e)).2.2.2 hg, fun e => (hlo2 g (.inr e)).2.2.2 hg⟩
            · rw [h] at hg
              have hg' : w11.heap.size = g := Option.some.inj hg
              exact ⟨fun e => by have := (hlo2 g (.inl e)).2.2.1; omega, fun e => by have := (hlo2 g (.inr e)).2.2.1; omega⟩
          · have h1 := hlo2 j hj
            exact ⟨h1.1, h1.2.1, by omega⟩
        case measure => simp [intOf]; omega
      · have m4 : Mod (fun _ => False) w3 w4 := by
          rcases hV with h | h
          · exact h.2
          · exact absurd h.1 hv0
        clear hV
        have hm4 := hm3.then0 m4
        have kq := m4.at0 kq
        clear kp10 kl he m4
        go_upto_region 15 with fail
        rw [setCell_blk kq, HS.out]
        obtain ⟨w5, kq5, m5, e5⟩ : ∃ w5, w5.heap[p13]? = some (.cells E2 62 (0, 0)) ∧ Mod (fun i => i = p13) w4 w5 ∧ w5 = setBlock w4 p13 (.cells E2 62 (0, 0)) := ⟨_, heap_setBlock _ _ (lt_size kq), mod_set _ _ _, rfl⟩
        rw [← e5]
        have hm5 := (hm4.mono (T := fun i => i = p13) (fun _ _ h => h.elim)).trans m5
        clear e5 m5 kq hs hs2
        have Lkq5 := lt_size kq5
        refine wp_pass0 (C := fun _ _ _ => False) (κ := fun i => [0, 0, 0, 1, 0].getD i 0) [0, 1, 2, 3, 4] (by kernel_rfl) (by kernel_rfl) (fun _ _ d _ _ h => by cases d <;> first | exact h | exact absurd h (hP _ _ _)) ?_
        (refine TD.val0 (v := ?v64) (by simp only [zA, zB, zC]; rfl) rfl ?hw64 (fun w1 => ?hy64) ?hn64; (case hw64 => rfl); (case hy64 => (go_simp; (try with_reducible rfl))); (try simp only [Act.put, zF, zG, zH]))
        (refine TD.val0 (v := ?v65) (by simp only [zA, zB, zC]; rfl) rfl ?hw65 (fun w1 => ?hy65) ?hn65; (case hw65 => rfl); (case hy65 => (go_simp; (try with_reducible rfl))); (try simp only [Act.put, zF, zG, zH]))
        (refine TD.val0 (v := ?v66) (by simp only [zA, zB, zC]; rfl) rfl ?hw66 (fun w1 => ?hy66) ?hn66; (case hw66 => rfl); (case hy66 => (go_simp; (try with_reducible rfl))); (try simp only [Act.put, zF, zG, zH]))
        (refine TD.load (v := ?v67) (p := ?p67) (Mod.refl _ _) (by simp only [zA, zB, zC]; rfl) rfl ?hw67 rfl ?hx67 (fun wq hSq => ?hy67) ?hn67; (case hw67 => rfl); (case hx67 => (simp only [Act.eval, zD, zA, zB, zC, zE]; (try rfl))); (case hy67 => (have kq5q := hSq.at kq5 (fun h => h); go_simp; (try with_reducible rfl))); (try simp only [Act.put, zF, zG, zH]))
        (refine TD.val0 (v := ?v68) (by simp only [zA, zB, zC]; rfl) rfl ?hw68 (fun w1 => ?hy68) ?hn68; (case hw68 => rfl); (case hy68 => (go_simp; (try with_reducible rfl))); (try simp only [Act.put, zF, zG, zH]))
        refine TD.nil (fun w6 hr => ?_)
        replace kq5 := hr.mod.at kq5 (fun h => h)
        have hm6 := Lib.hid (hm5.then0 hr.mod)
        clear hr hget hm5
        have hne : ((vd : Int) != 0) = true := by rw [bne_iff_ne]; omega
        go_wp2_with fail
        go_roundw
        case rel =>
          refine ⟨i + 1, vs ++ [vd], k, _, rfl, by omega, by omega, by simp [hvs], rfl, by go_num, Lib.hid ?_, by rw [← HEE.out.2]; exact kq5, Lib.hid (HM.out.trans (hm6.out.mono (fun j _ h => .inr (.inr h))))⟩
          refine ⟨S1, ent, Tn1, Tr1, ?_, HBI.out.at.mod hm6.out (fun j hj e => (HLO.out j (.inl hj)).1 e) (fun j hj e => (HLO.out j (.inr hj)).1 e) ?_, ?_, ?_⟩
          · rw [HX.out]
            have h := RRun.snoc HRUN.out (x := x) (n := vd) (S2 := S1) ⟨HVD.out.symm, .inl ⟨hv0, rfl⟩⟩
            rw [if_neg hv0, if_neg hv0] at h
            exact h
          · rintro q c0 c1 c2 kx rfl
            rw [KQR.out] at kx
            injection (Option.some.inj kx) with h1 h2
            exact absurd h2 (by decide)
          · exact ⟨HENT.out.1.mod hm6.out (ownE_ne HENT.out.1 KQR.out (by decide)), HENT.out.2⟩
          · intro j hj
            have h1 := HLO.out j hj
            have h2 := hm6.out.size
            exact ⟨h1.1, h1.2.1, by omega⟩
        case measure => simp [intOf]; omega
    · obtain rfl : i = ll := by omega
      rw [Nat.sub_self, List.replicate_zero, List.append_nil] at kq
      obtain ⟨S1, ent, Tn1, Tr1, hrun, hbk, hent, hlo1⟩ := HR.out
      rw [List.take_of_length_le (by rw [HLL.out]; omega)] at hrun
      have HMW : Hid (Mod (fun j => Tn j ∨ Tr j) w wr) := Lib.hid ((HM1.out.1.mono (T := fun j => Tn j ∨ Tr j) (fun _ _ h => h.elim)).then HM.out (fun j hj e => by
        rcases e with h | h | h
        · exact .inl h
        · exact .inr h
        · omega))
      have HLO := Lib.hid hlo1
      have HRUN := Lib.hid hrun
      have HENT := Lib.hid hent
      have KQR := Lib.hid kq
      clear HR
      by_cases hk0 : k = 0
      · subst hk0
        have HBK := Lib.hid hbk
        clear hbk hent hlo1 hrun
        go_wp2_with fail
        go_ret
        refine ⟨p13, vs, S1, ent, 0, Tn1, Tr1, by rw [HLL.out]; rfl, gp13, KQR.out, HRUN.out, by rw [if_pos rfl]; exact HBK.out, fun j hj => ?_, HMW.out⟩
        have h1 := HLO.out j hj
        have h2 := HM1.out.2
        refine ⟨h1.1, ?_, h1.2.2⟩
        rcases h1.2.1 with h | h | h
        · exact .inl h
        · exact .inr (.inl h)
        · exact .inr (.inr (by omega))
      · obtain ⟨n64, rfl⟩ : ∃ n64 : UInt64, n64.toNat = k := ⟨UInt64.ofNat k, by rw [UInt64.toNat_ofNat']; omega⟩
        obtain ⟨q1, n1, t1, m1, ea1, en1, ec1, oa1, on1, oc1, er1, or1, hbi⟩ := hbk.in
        have HBI := Lib.hid hbi
        have kb := hbi.1
        unfold blkC at kb
        have hd1 : decide ((n64.toNat : Int) > 0) = true := decide_eq_true (by omega)
        have hd2 : decide (0 < n64.toNat) = true := decide_eq_true (by omega)
        obtain ⟨W, hW⟩ : ∃ W : Nat → Prop, W = fun j => (Value.slice ea1 en1 ec1).ownBlock = some j := ⟨_, rfl⟩
        have HW := Lib.hid hW
        have hWT : ∀ j, W j → Tr1 j := by rw [hW]; exact fun j hj => hbi.2.2.2.2.2.1.1 j hj
        have nWb : ¬ W b := by rw [hW]; exact fun h => ownE_ne hbi.2.2.1.1 hbi.1 (by decide) _ h rfl
        have nWp : ¬ W p13 := fun h => (HLO.out _ (.inr (hWT _ h))).1 rfl
        have hWL : ∀ j, W j → j < wr.heap.size := fun j hj => (HLO.out j (.inr (hWT _ hj))).2.2
        have HKK : Hid (OwnL slv 1 45 0 er1 (.slice ea1 en1 ec1) W wr) := Lib.hid ⟨hbi.2.2.1.1, fun g hg => by rw [hW]; exact hg⟩
        have helen : er1.length + 1 ≤ 1000000 := by
          have h1 := congrArg List.length hbi.2.2.1.2.1
          rw [List.length_map] at h1
          have h2 := congrArg List.length HRUN.out.len.2.2.2.2.2.1
          have h3 := HB.out.2.2.2
          omega
        have hentl : ent.length ≤ 900000 := Nat.le_trans HRUN.out.len.2.2.2.2.1 HB.out.2.2.1
        have HW2 := Lib.hid (And.intro hWT hWL)
        obtain ⟨aE, cE, rfl, -⟩ := hent.1.at bytesT
        have HEW : Hid (∀ wq, Mod W wr wq → SlAt uc 1 wq aE ent) := Lib.hid (fun wq h => (own_slAt (HENT.out.1.mod h (fun g hg hw => (HENT.out.2 g hg).2 (hWT g hw)))).1)
        obtain ⟨eN, heN⟩ : ∃ eN, ent.length = eN := ⟨_, rfl⟩
        have HEN := Lib.hid heN
        rw [heN] at hentl ⊢
        clear heN hW hbk hent hlo1 hrun hbi hWT
        have kpE := kq
        clear kq
        go_upto_region 22 with fail
        have Lkb := lt_size kb
        have LkpE := lt_size kpE
        refine wp_epass (T0 := W) (K := OwnL slv 1 45 0 er1 (.slice ea1 en1 ec1)) (κ := fun i => [0, 0, 0, 0, 0, 0, 6, 0, 3, 6, 3, 6, 0, 0, 6].getD i 0) (υ := fun i => [[], [], [], [], [], [], [], [], [], [101], [], [103], [], [], []].getD i []) [0, 1, 2, 3, 4, 5, 6, 7, 8, 9, 10, 11] [12, 13, 14] (by kernel_rfl) (by kernel_rfl) (goodOL slv 1 45 0 er1 (.slice ea1 en1 ec1)).cl (HKK.out) (hWL) ?_
        have gK := goodOL slv 1 45 0 er1 (.slice ea1 en1 ec1)
        (refine TG.v0 (v := ?v69) (by simp only [zA, zB, zC]; rfl) rfl ?hw69 (fun w1 => ?hy69) ?hn69; (case hw69 => rfl); (case hy69 => (go_simp; (try with_reducible rfl))); (try simp only [Act.put, zF, zG, zH]))
        (refine TG.v0 (v := ?v70) (by simp only [zA, zB, zC]; rfl) rfl ?hw70 (fun w1 => ?hy70) ?hn70; (case hw70 => rfl); (case hy70 => (go_simp; (try with_reducible rfl))); (try simp only [Act.put, zF, zG, zH]))
        (refine TG.v0 (v := ?v71) (by simp only [zA, zB, zC]; rfl) rfl ?hw71 (fun w1 => ?hy71) ?hn71; (case hw71 => rfl); (case hy71 => (go_simp; (try with_reducible rfl))); (try simp only [Act.put, zF, zG, zH]))
        (refine TG.v0 (v := ?v72) (by simp only [zA, zB, zC]; rfl) rfl ?hw72 (fun w1 => ?hy72) ?hn72; (case hw72 => rfl); (case hy72 => (go_simp; (try with_reducible rfl))); (try simp only [Act.put, zF, zG, zH]))
        (refine TG.load (v := ?v73) (p := ?p73) (by simp only [zA, zB, zC]; rfl) rfl ?hw73 rfl ?hx73 (fun wq hSq => ?hy73) ?hn73; (case hw73 => rfl); (case hx73 => (simp only [Act.eval, zD, zA, zB, zC, zE]; (try rfl))); (case hy73 => (have kbq := hSq.at kb (by intro hT; first | exact hT | exact absurd hT (by assumption) | omega | (simp only at hT; omega)); have kpEq := hSq.at kpE (by intro hT; first | exact hT | exact absurd hT (by assumption) | omega | (simp only at hT; omega)); go_simp; (try with_reducible rfl))); (try simp only [Act.put, zF, zG, zH]))
        (refine TG.v0 (v := ?v74) (by simp only [zA, zB, zC]; rfl) rfl ?hw74 (fun w1 => ?hy74) ?hn74; (case hw74 => rfl); (case hy74 => (go_simp; (try with_reducible rfl))); (try simp only [Act.put, zF, zG, zH]))
        (refine TG.callM (f := ?f75) (args := ?r75) (NewL uc 1 5 wr.heap.size (leB n64)) (goodN uc 1 5 wr.heap.size (leB n64)) gK (by simp only [zA, zB, zC]; rfl) rfl ?hw75 (fun w1 => ?hy75) (fun T wq kq ltq hSq ub => ?hsp75) ?hn75; (case hw75 => rfl); (case hy75 => (go_simp; (first | with_reducible rfl | (constructor <;> with_reducible rfl)))); (case hsp75 => (have kbq := hSq.at kb (by intro hT; first | exact hT | exact absurd hT (by assumption) | omega | (simp only at hT; omega)); have kpEq := hSq.at kpE (by intro hT; first | exact hT | exact absurd hT (by assumption) | omega | (simp only at hT; omega)); exact (put8_c n64 wq).mono (fun e w' h => by obtain ⟨v, h1, h2, h3⟩ := h; exact ⟨v, h1, h3, newL h2 hSq.size⟩))); rintro v75 ⟨wI, TI, hI⟩; replace gK := gK.and ((goodN uc 1 5 wr.heap.size (leB n64)) v75); obtain ⟨a99, e99⟩ := hI.k.2.1.form; rw [leB_len] at e99; subst e99; (try clear hI TI wI); (try simp only [Act.put, zF, zG, zH]))
        (refine TG.v0 (v := ?v76) (by simp only [zA, zB, zC]; rfl) rfl ?hw76 (fun w1 => ?hy76) ?hn76; (case hw76 => rfl); (case hy76 => (go_simp; (try with_reducible rfl))); (try simp only [Act.put, zF, zG, zH]))
        (refine TG.bslice (by simp only [zA, zB, zC]; rfl) rfl ?hw77 rfl rfl ?hx77 (bsBs2 a99 aE 8 8 eN cE) (fun p101 hp101 _ => ?hn77); (case hw77 => rfl); (case hx77 => (simp only [List.map_toArray, List.map_cons, List.map_nil, Act.eval, zD, zA, zB, zC, zE]; (try rfl))); (try simp only [Act.put, zF, zG, zH]))
        (refine TG.callM (f := ?f78) (args := ?r78) (OwnL uc 1 5 wr.heap.size (leB n64 ++ ent)) (goodOL uc 1 5 wr.heap.size (leB n64 ++ ent)) gK (by simp only [zA, zB, zC]; rfl) rfl ?hw78 (fun w1 => ?hy78) (fun T wq kq ltq hSq ub => ?hsp78) ?hn78; (case hw78 => rfl); (case hy78 => (go_simp; (first | with_reducible rfl | (constructor <;> with_reducible rfl)))); (case hsp78 => (have kbq := hSq.at kb (by intro hT; first | exact hT | exact absurd hT (by assumption) | omega | (simp only at hT; omega)); have kpEq := hSq.at kpE (by intro hT; first | exact hT | exact absurd hT (by assumption) | omega | (simp only at hT; omega)); have kp101 := ub.box (p := p101) (by first | exact Bx.set_same _ _ _ | (simp only [Bx.set_same]; rfl)) (by first | decide | exact List.mem_singleton.2 rfl | simp); dsimp only [Value.cells] at kp101; have nUp101 := (ub p101 _ (by first | exact Bx.set_same _ _ _ | (simp only [Bx.set_same]; rfl)) (by first | decide | exact List.mem_singleton.2 rfl | simp)).1; exact (concat2_c p101 ⟨a99, leB n64, 8⟩ ⟨aE, ent, cE⟩ wq (show wq.heap[p101]? = some (Obj.cells #[.slice a99 (leB n64).length 8, .slice aE ent.length cE] 45 (0, 0)) by rw [leB_len, HEN.out]; exact kp101) kq.2.1.slAt (HEW.out wq hSq) (by show 0 < (leB n64).length; rw [leB_len]; omega) (by show (leB n64).length + ent.length ≤ 1000000; rw [leB_len, HEN.out]; omega)).mono (fun e w' h => by obtain ⟨v, h1, h2, h3⟩ := h; exact ⟨v, h1, h3, ownL h2 hSq.size⟩))); rintro v78 ⟨wI, TI, hI⟩; replace gK := gK.and ((goodOL uc 1 5 wr.heap.size (leB n64 ++ ent)) v78); obtain ⟨a102, c102, rfl, -⟩ := hI.k.2.1.at bytesT; (try clear hI TI wI); (try simp only [Act.put, zF, zG, zH]))
        (refine TG.bslice (by simp only [zA, zB, zC]; rfl) rfl ?hw79 rfl rfl ?hx79 (bsBs1 a102 (leB n64 ++ ent).length c102) (fun p103 hp103 _ => ?hn79); (case hw79 => rfl); (case hx79 => (simp only [List.map_toArray, List.map_cons, List.map_nil, Act.eval, zD, zA, zB, zC, zE]; (try rfl))); (try simp only [Act.put, zF, zG, zH]))
        obtain ⟨ne_p103_p101, hp103⟩ := Bx.set_none hp103
        (refine TG.appK (X := ?X80) (Y := ?Y80) (EntL wr.heap.size er1 (leB n64 ++ ent)) (goodEnt wr.heap.size er1 (leB n64 ++ ent)) (by simp only [zA, zB, zC]; rfl) rfl ?hw80 rfl ?hx80 ?hz80 (fun T wq kq ltq hSq ub => ?hy80) ?hn80; (case hw80 => rfl); (case hx80 => (simp only [Act.eval, zD, zA, zB, zC, zE]; (try rfl))); (case hz80 => (simp only [Act.eval, zD, zA, zB, zC, zE]; (try rfl))); (case hy80 => (have kbq := hSq.at kb (by intro hT; first | exact hT | exact absurd hT (by assumption) | omega | (simp only at hT; omega)); have kpEq := hSq.at kpE (by intro hT; first | exact hT | exact absurd hT (by assumption) | omega | (simp only at hT; omega)); have kp103 := ub.box (p := p103) (by first | exact Bx.set_same _ _ _ | (simp only [Bx.set_ne _ (Ne.symm ne_p103_p101), Bx.set_ne _ ne_p103_p101, Bx.set_same]; rfl)) (by first | decide | exact List.mem_singleton.2 rfl | simp); dsimp only [Value.cells] at kp103; have nUp103 := (ub p103 _ (by first | exact Bx.set_same _ _ _ | (simp only [Bx.set_ne _ (Ne.symm ne_p103_p101), Bx.set_ne _ ne_p103_p101, Bx.set_same]; rfl)) (by first | decide | exact List.mem_singleton.2 rfl | simp)).1; exact app_ent kq.1.1 kq.2 kp103 helen _)); rintro v80 ⟨wI, TI, hI⟩; replace gK := (goodEnt wr.heap.size er1 (leB n64 ++ ent)) v80; skip; (try clear hI TI wI); (try simp only [Act.put, zF, zG, zH]))
        refine TG.nil (fun w2 ⟨TR, hr⟩ => ?_)
        replace kb := hr.mod.at kb (by intro hT; first | exact hT | exact absurd hT (by assumption) | omega | (simp only at hT; omega))
        replace kpE := hr.mod.at kpE (by intro hT; first | exact hT | exact absurd hT (by assumption) | omega | (simp only at hT; omega))
        have kp101 := hr.box p101 _ (by first | exact Bx.set_same _ _ _ | (simp only [Bx.set_ne _ (Ne.symm ne_p103_p101), Bx.set_ne _ ne_p103_p101, Bx.set_same]; rfl)); dsimp only [Value.cells] at kp101; obtain ⟨gp101, nTp101, kp101⟩ := kp101
        have kp103 := hr.box p103 _ (by first | exact Bx.set_same _ _ _ | (simp only [Bx.set_ne _ (Ne.symm ne_p103_p101), Bx.set_ne _ ne_p103_p101, Bx.set_same]; rfl)); dsimp only [Value.cells] at kp103; obtain ⟨gp103, nTp103, kp103⟩ := kp103
        clear gK
        obtain ⟨x2, hx2, hNx, hOx⟩ := hr.k
        obtain ⟨ea2, ec2, rfl, -⟩ := hOx.1.at slsT
        have m2 := hr.mod
        have HTR : Hid (∀ j, TR j → (j < wr.heap.size → W j) ∧ j < w2.heap.size) := Lib.hid (fun j hj => ⟨fun h => hr.old j h hj, hr.lt j hj⟩)
        have HOX := Lib.hid (And.intro hx2 (And.intro hNx hOx))
        have hbTR : ∀ j, TR j → j ≠ b := fun j hj e => nWb (hr.old b (lt_size HBI.out.1) (e ▸ hj))
        have HBT := Lib.hid hbTR
        obtain ⟨en2, hen2⟩ : ∃ en2, (er1 ++ [x2]).length = en2 := ⟨_, rfl⟩
        have HE2 := Lib.hid hen2
        rw [hen2]
        have hbp : p13 ≠ b := fun e => (HLO.out b (.inr HBI.out.2.2.2.2.1.1)).1 e.symm
        clear hr hx2 hNx hOx hbTR hen2 kp101 kp103 gp101 gp103 nTp101 nTp103 nWb nWp hWL helen hentl
        (refine TE.val0 (v := ?v81) (by simp only [zA, zB, zC]; rfl) ?hw81 (fun w1 => ?hy81) ?hn81; (case hw81 => rfl); (case hy81 => (go_simp; (try with_reducible rfl))); (try simp only [Act.put, zF, zG, zH]))
        (refine TE.val0 (v := ?v82) (by simp only [zA, zB, zC]; rfl) ?hw82 (fun w1 => ?hy82) ?hn82; (case hw82 => rfl); (case hy82 => (go_simp; (try with_reducible rfl))); (try simp only [Act.put, zF, zG, zH]))
        refine TE.step (by simp only [zA, zB, zC]; rfl) rfl ?_
        (refine eff_store (X := ?X83) (Y := ?Y83) (w' := ?w83) (by simp only [zA, zB, zC]; rfl) ?hw83 rfl ?hx83 ?hz83 ?hy83 ?hn83; (case hw83 => rfl); (case hx83 => (simp only [Act.eval, zD, zA, zB, zC, zE]; (try rfl))); (case hz83 => (simp only [Act.eval, zD, zA, zB, zC, zE]; (try rfl))); (case hy83 => (go_simp; (try with_reducible rfl))))
        (first | refine TE.nil_set kb (fun wn kb mS => ?_) | refine TE.nil_setCell kb (fun wn kb mS => ?_))
        replace kpE := mS.at_ne kpE hbp
        obtain ⟨w3, e3⟩ : ∃ w3, w3 = wn := ⟨_, rfl⟩
        rw [← e3] at mS kb kpE ⊢
        clear e3
        have HKB : Hid (w3.heap[b]? = some (.cells (blkC s q1 n1 t1 S1.en ea2 en2 ec2 oa1 on1 oc1 S1.fees) 80 (0, 0))) := Lib.hid kb
        have HMS := Lib.hid (And.intro m2 mS)
        clear kb m2 mS
        go_wp2_with fail
        go_ret
        have hoo := HOX.out
        rw [HE2.out] at hoo
        have hs2 := HMS.out.1.size
        have hs3 := HMS.out.2.size
        have hs1 := HM1.out.2
        have hWo : ∀ j, W j → (Value.slice ea1 en1 ec1).ownBlock = some j := fun j hj => by rw [HW.out] at hj; exact hj
        have hm : Mod (fun i => i = b ∨ (Value.slice ea1 en1 ec1).ownBlock = some i) wr w3 := (HMS.out.1.mono (fun j _ h => .inr (hWo j h))).trans (HMS.out.2.mono (fun j _ h => .inl h))
        have hTc : ∀ j, TR j → (W j ∧ j < wr.heap.size) ∨ (wr.heap.size ≤ j ∧ j < w2.heap.size) := fun j hj => by
          by_cases h : j < wr.heap.size
          · exact .inl ⟨(HTR.out j hj).1 h, h⟩
          · exact .inr ⟨by omega, (HTR.out j hj).2⟩
        have hbk := HBI.out.ent hm HKB.out (hoo.2.2.1.mod HMS.out.2 (fun g hg => HBT.out g (hoo.2.2.2 g hg))) ((hoo.2.1.1.mod HMS.out.2 (fun g hg => HBT.out g (hoo.2.1.2 g hg))).baseLe (Nat.zero_le _)) (fun g hg => (hoo.2.1.1.lt g hg).1)
          (fun g hg => by
            rcases hTc g (hoo.2.2.2 g hg) with h | h
            · exact .inl (hWo g h.1)
            · exact .inr h.1) (fun j hj => (HLO.out j hj).2.2)
        have key : ∀ j, (Tn1 j ∨ Tr1 j) ∨ (wr.heap.size ≤ j ∧ j < w3.heap.size) → j ≠ p13 ∧ (Tn j ∨ Tr j ∨ w.heap.size ≤ j) ∧ j < w3.heap.size := fun j hj => by
          rcases hj with h | h
          · have h1 := HLO.out j h
            refine ⟨h1.1, ?_, by omega⟩
            rcases h1.2.1 with h | h | h
            · exact .inl h
            · exact .inr (.inl h)
            · exact .inr (.inr (by omega))
          · have h2 := lt_size KQR.out
            have h3 := HMW.out.size
            exact ⟨by omega, .inr (.inr (by omega)), h.2⟩
        refine ⟨p13, vs, S1, ent, n64.toNat, Tn1, _, by rw [HLL.out]; rfl, gp13, kpE, HRUN.out, by rw [if_neg hk0, show (n64.toNat).toUInt64 = n64 from UInt64.ofNat_toNat, ← hoo.1]; exact hbk, ?_, HMW.out.then hm (fun j hj e => ?_)⟩
        · rintro j (h | h | h | h)
          · exact key j (.inl (.inl h))
          · exact key j (.inl (.inr h))
          · have := (hoo.2.1.1.lt j h)
            exact key j (.inr (by omega))
          · rcases hTc j (hoo.2.2.2 j h) with h1 | h1
            · exact key j (.inl (.inr (HW2.out.1 j h1.1)))
            · exact key j (.inr (by omega))
        · have h1 : Tr1 j := by
            rcases e with rfl | e
            · exact HBI.out.2.2.2.2.1.1
            · exact HBI.out.2.2.2.2.2.1.1 j e
          rcases (HLO.out j (.inr h1)).2.1 with h | h | h
          · exact .inl h
          · exact .inr h
          · omega
end Go.Proofs.Ytofpnmoeimjnnaa
namespace Go.Proofs.Ytofpnmoeimjnnaa
open Go.RowKit
open Go.ChangeMaps (setBlock)
set_option linter.unusedSimpArgs false
set_option linter.unusedVariables false
attribute [local go_sem ↓] wlKey ldKey stKey wlAcct ldAcct stAcct wlHold ldHold stHold wlHash ldHash stHash wlSig ldSig stSig wlLim ldLim stLim wlRdy ldRdy stRdy wlOut ldOut stOut wlTd ldTd stTd wlTx ldTx stTx eqKey1
attribute [local go_sem] eqMap neMap av_size av_all av_one hd_size hd_key hd_acct hd_all hd_one zKey_size zAcct_size zHold_size zHash_size zSg_size zLim_size zRdy_size zOut_size zTried_size zTx_size cell_blk frozen_blk kc_ext one_int one_bool one_ptr one_slice one_map kc_one kc_one0 kc_size sgc_size sgc_ext sgc_one0 sgc_one' rdr_size rdr_all rdr_one rdr_tx rdr_rec rdr0 rdr1 rdr6 rdr39 rdr40 rdr41 rdr0' rdr1' rdr6' rdr39' rdr40' rdr41' ocr_size ocr_all ocr_one ocr2 ocr3 ocr4 ocr5 ocr2' ocr3' ocr4' ocr5' tdr_size tdr_all tdr_one tdr_r tdr_o tdr_tx tdr_rec tdr0 tdr1 tdr41 tdr50 tdr51 tdr52 tdr53 tdr0' tdr1' tdr41' tdr50' tdr51' tdr52' tdr53' txr_size txr_all txr_one txr0 txr38 txr39 txr0' txr38' txr39' Value.cells
theorem in_parts {w : World} {a : Option Addr} {l : List InR} (h : SlAt inr 3 w a l) {i : Nat} {x : InR} (hx : l[i]? = some x) : ∃ g o C U fr, a = some ⟨g, o, none⟩ ∧ w.heap[g]? = some (.cells C U fr) ∧ C[o + i * 3 + 1]? = some (.slice x.a.a x.a.l.length x.a.c) ∧ C[o + i * 3 + 2]? = some (.slice x.d.a x.d.l.length x.d.c) := by
  obtain ⟨g, o, C, U, fr, rfl, hk, he, _⟩ := h.block hx
  exact ⟨g, o, C, U, fr, rfl, hk, cellC he (j := 1) rfl, cellC he (j := 2) rfl⟩
theorem lo_parts {w : World} {a : Option Addr} {l : List LoR} (h : SlAt lor 34 w a l) {i : Nat} {x : LoR} (hx : l[i]? = some x) : ∃ g o C U fr, a = some ⟨g, o, none⟩ ∧ w.heap[g]? = some (.cells C U fr) ∧ C[o + i * 34 + 32]? = some (.slice x.w.a x.w.l.length x.w.c) ∧ C[o + i * 34 + 33]? = some (.slice x.r.a x.r.l.length x.r.c) := by
  obtain ⟨g, o, C, U, fr, rfl, hk, he, _⟩ := h.block hx
  exact ⟨g, o, C, U, fr, rfl, hk, cellC he (j := 32) (kx_get _ _ 0), cellC he (j := 33) (kx_get _ _ 1)⟩
def GrR (p : Prop) (w : World) (e : Ending) (w' : World) : Prop := ∃ b, e = .returned (.bool b) ∧ (b = false → p) ∧ Mod (fun _ => False) w w'
theorem GrR.of {p : Prop} {w : World} {e : Ending} {w' : World} (b : Bool) (he : e = .returned (.bool b)) (hp : b = false → p) (hm : Mod (fun _ => False) w w') : GrR p w e w' := ⟨b, he, hp, hm⟩
set_option maxRecDepth 20000 in
set_option maxHeartbeats 3200000 in
theorem great15_c (x : RdR) (w : World) (hi : SlAt inr 3 w x.ins.a x.ins.l) (hk : SlAt lor 34 w x.lks.a x.lks.l) (b1 : x.ins.l.length ≤ 140737488355328) (b2 : x.lks.l.length ≤ 140737488355328) :
    Calls Try.prog 12 #[.agg (rdr x)] w (GrR (x.ins.l.length ≤ 200 ∧ x.ro.l.length ≤ 300) w) := by
  have HI := Lib.hid hi
  have HK := Lib.hid hk
  clear hi hk
  go_enter Try.func12, Try.ntmps12
  go_upto_region 0 with fail
  refine wp_pass0 (C := fun _ _ _ => False) (κ := fun i => [3, 0].getD i 0) [0, 1] (by kernel_rfl) (by kernel_rfl) (fun _ _ d _ _ h => by cases d <;> first | exact h | exact absurd h (hP _ _ _)) ?_
  (refine TD.box (v := ?v1) (by simp only [zA, zB, zC]; rfl) rfl ?hw1 rfl rfl ?hx1 (fun p1 hp1 => ?hn1); (case hw1 => rfl); (case hx1 => (simp only [Act.eval, zD, zA, zB, zC, zE]; (try rfl))); (try simp only [Act.put, zF, zG, zH]))
  (refine TD.val0 (v := ?v2) (by simp only [zA, zB, zC]; rfl) rfl ?hw2 (fun w1 => ?hy2) ?hn2; (case hw2 => rfl); (case hy2 => (go_simp; (try with_reducible rfl))); (try simp only [Act.put, zF, zG, zH]))
  refine TD.nil (fun w1 hr => ?_)
  have kp1 := hr.box p1 _ (by first | exact Bx.set_same _ _ _ | (simp only [Bx.set_same]; rfl)); dsimp only [Value.cells] at kp1; obtain ⟨gp1, kp1⟩ := kp1
  have m1 := hr.mod
  clear hr
  go_upto_region 2 with fail
  go_wp2_with fail
  go_loopw [3, 4] (fun s3 s4 ws => ∃ (i : Nat) (n : Int), i ≤ x.ins.l.length ∧ s3 = .int .i64 n ∧ s4 = .int .i64 (i : Int) ∧ Mod (fun _ => False) w1 ws) (fun _ s4 _ => x.ins.l.length - (intOf s4).toNat)
  case atStart => exact ⟨0, _, by omega, rfl, rfl, Mod.refl _ _⟩
  case round =>
    have KP := Lib.hid kp1
    obtain ⟨i, n, hi, rfl, rfl, hm⟩ := hrel
    have kp1 := hm.at0 kp1
    have mm := m1.trans hm
    by_cases hlt : i < x.ins.l.length
    · have hdl : decide ((i : Int) < (x.ins.l.length : Int)) = true := decide_eq_true (by omega)
      by_cases hn : n < 20000
      · have hdn := decide_eq_true hn
        obtain ⟨y, hy⟩ : ∃ y, x.ins.l[i]? = some y := ⟨_, List.getElem?_eq_getElem hlt⟩
        obtain ⟨g, o, C, U, fr, ha, kg, c1, c2⟩ := in_parts (HI.out.mod0 mm) hy
        clear hy
        go_upto_region 5 with fail
        have Lkp1 := lt_size kp1
        have Lkg := lt_size kg
        refine wp_pass (C := fun _ _ _ => False) (κ := fun i => [0, 0, 0, 0, 1, 0, 0, 0, 1, 0, 0, 0, 0, 0, 1, 0, 0, 0, 1, 0, 0, 0].getD i 0) [0, 1, 2, 3, 4, 5, 6, 7, 8, 9, 10, 11, 12, 13, 14, 15, 16, 17, 18, 19, 20, 21] (by kernel_rfl) (by kernel_rfl) (fun _ _ d _ _ h => by cases d <;> first | exact h | exact absurd h (hP _ _ _)) ?_
        (refine TD.val0 (v := ?v3) (by simp only [zA, zB, zC]; rfl) rfl ?hw3 (fun w1 => ?hy3) ?hn3; (case hw3 => rfl); (case hy3 => (go_simp; (try with_reducible rfl))); (try simp only [Act.put, zF, zG, zH]))
        (refine TD.val0 (v := ?v4) (by simp only [zA, zB, zC]; rfl) rfl ?hw4 (fun w1 => ?hy4) ?hn4; (case hw4 => rfl); (case hy4 => (go_simp; (try with_reducible rfl))); (try simp only [Act.put, zF, zG, zH]))
        (refine TD.val0 (v := ?v5) (by simp only [zA, zB, zC]; rfl) rfl ?hw5 (fun w1 => ?hy5) ?hn5; (case hw5 => rfl); (case hy5 => (go_simp; (try with_reducible rfl))); (try simp only [Act.put, zF, zG, zH]))
        (refine TD.val0 (v := ?v6) (by simp only [zA, zB, zC]; rfl) rfl ?hw6 (fun w1 => ?hy6) ?hn6; (case hw6 => rfl); (case hy6 => (go_simp; (try with_reducible rfl))); (try simp only [Act.put, zF, zG, zH]))
        (refine TD.load (v := ?v7) (p := ?p7) (Mod.refl _ _) (by simp only [zA, zB, zC]; rfl) rfl ?hw7 rfl ?hx7 (fun wq hSq => ?hy7) ?hn7; (case hw7 => rfl); (case hx7 => (simp only [Act.eval, zD, zA, zB, zC, zE]; (try rfl))); (case hy7 => (have kp1q := hSq.at kp1 (fun h => h); have kgq := hSq.at kg (fun h => h); go_simp; (try with_reducible rfl))); (try simp only [Act.put, zF, zG, zH]))
        (refine TD.val0 (v := ?v8) (by simp only [zA, zB, zC]; rfl) rfl ?hw8 (fun w1 => ?hy8) ?hn8; (case hw8 => rfl); (case hy8 => (go_simp; (try with_reducible rfl))); (try simp only [Act.put, zF, zG, zH]))
        (refine TD.val0 (v := ?v9) (by simp only [zA, zB, zC]; rfl) rfl ?hw9 (fun w1 => ?hy9) ?hn9; (case hw9 => rfl); (case hy9 => (go_simp; (try with_reducible rfl))); (try simp only [Act.put, zF, zG, zH]))
        (refine TD.val0 (v := ?v10) (by simp only [zA, zB, zC]; rfl) rfl ?hw10 (fun w1 => ?hy10) ?hn10; (case hw10 => rfl); (case hy10 => (go_simp; (try with_reducible rfl))); (try simp only [Act.put, zF, zG, zH]))
        (refine TD.load (v := ?v11) (p := ?p11) (Mod.refl _ _) (by simp only [zA, zB, zC]; rfl) rfl ?hw11 rfl ?hx11 (fun wq hSq => ?hy11) ?hn11; (case hw11 => rfl); (case hx11 => (simp only [Act.eval, zD, zA, zB, zC, zE]; (try rfl))); (case hy11 => (have kp1q := hSq.at kp1 (fun h => h); have kgq := hSq.at kg (fun h => h); go_simp; (try with_reducible rfl))); (try simp only [Act.put, zF, zG, zH]))
        (refine TD.val0 (v := ?v12) (by simp only [zA, zB, zC]; rfl) rfl ?hw12 (fun w1 => ?hy12) ?hn12; (case hw12 => rfl); (case hy12 => (go_simp; (try with_reducible rfl))); (try simp only [Act.put, zF, zG, zH]))
        (refine TD.val0 (v := ?v13) (by simp only [zA, zB, zC]; rfl) rfl ?hw13 (fun w1 => ?hy13) ?hn13; (case hw13 => rfl); (case hy13 => (go_simp; (try with_reducible rfl))); (try simp only [Act.put, zF, zG, zH]))
        (refine TD.val0 (v := ?v14) (by simp only [zA, zB, zC]; rfl) rfl ?hw14 (fun w1 => ?hy14) ?hn14; (case hw14 => rfl); (case hy14 => (go_simp; (try with_reducible rfl))); (try simp only [Act.put, zF, zG, zH]))
        (refine TD.val0 (v := ?v15) (by simp only [zA, zB, zC]; rfl) rfl ?hw15 (fun w1 => ?hy15) ?hn15; (case hw15 => rfl); (case hy15 => (go_simp; (try with_reducible rfl))); (try simp only [Act.put, zF, zG, zH]))
        (refine TD.val0 (v := ?v16) (by simp only [zA, zB, zC]; rfl) rfl ?hw16 (fun w1 => ?hy16) ?hn16; (case hw16 => rfl); (case hy16 => (go_simp; (try with_reducible rfl))); (try simp only [Act.put, zF, zG, zH]))
        (refine TD.load (v := ?v17) (p := ?p17) (Mod.refl _ _) (by simp only [zA, zB, zC]; rfl) rfl ?hw17 rfl ?hx17 (fun wq hSq => ?hy17) ?hn17; (case hw17 => rfl); (case hx17 => (simp only [Act.eval, zD, zA, zB, zC, zE]; (try rfl))); (case hy17 => (have kp1q := hSq.at kp1 (fun h => h); have kgq := hSq.at kg (fun h => h); go_simp; (try with_reducible rfl))); (try simp only [Act.put, zF, zG, zH]))
        (refine TD.val0 (v := ?v18) (by simp only [zA, zB, zC]; rfl) rfl ?hw18 (fun w1 => ?hy18) ?hn18; (case hw18 => rfl); (case hy18 => (go_simp; (try with_reducible rfl))); (try simp only [Act.put, zF, zG, zH]))
        (refine TD.val0 (v := ?v19) (by simp only [zA, zB, zC]; rfl) rfl ?hw19 (fun w1 => ?hy19) ?hn19; (case hw19 => rfl); (case hy19 => (go_simp; (try with_reducible rfl))); (try simp only [Act.put, zF, zG, zH]))
        (refine TD.val0 (v := ?v20) (by simp only [zA, zB, zC]; rfl) rfl ?hw20 (fun w1 => ?hy20) ?hn20; (case hw20 => rfl); (case hy20 => (go_simp; (try with_reducible rfl))); (try simp only [Act.put, zF, zG, zH]))
        (refine TD.load (v := ?v21) (p := ?p21) (Mod.refl _ _) (by simp only [zA, zB, zC]; rfl) rfl ?hw21 rfl ?hx21 (fun wq hSq => ?hy21) ?hn21; (case hw21 => rfl); (case hx21 => (simp only [Act.eval, zD, zA, zB, zC, zE]; (try rfl))); (case hy21 => (have kp1q := hSq.at kp1 (fun h => h); have kgq := hSq.at kg (fun h => h); go_simp; (try with_reducible rfl))); (try simp only [Act.put, zF, zG, zH]))
        (refine TD.val0 (v := ?v22) (by simp only [zA, zB, zC]; rfl) rfl ?hw22 (fun w1 => ?hy22) ?hn22; (case hw22 => rfl); (case hy22 => (go_simp; (try with_reducible rfl))); (try simp only [Act.put, zF, zG, zH]))
        (refine TD.val0 (v := ?v23) (by simp only [zA, zB, zC]; rfl) rfl ?hw23 (fun w1 => ?hy23) ?hn23; (case hw23 => rfl); (case hy23 => (go_simp; (try with_reducible rfl))); (try simp only [Act.put, zF, zG, zH]))
        (refine TD.val0 (v := ?v24) (by simp only [zA, zB, zC]; rfl) rfl ?hw24 (fun w1 => ?hy24) ?hn24; (case hw24 => rfl); (case hy24 => (go_simp; (try with_reducible rfl))); (try simp only [Act.put, zF, zG, zH]))
        refine TD.nil (fun w3 hr => ?_)
        replace kp1 := hr.mod.at kp1 (fun h => h)
        replace kg := hr.mod.at kg (fun h => h)
        have hm3 := hm.then0 hr.mod
        clear hr c1 c2 ha
        go_wp2_with fail
        go_roundw
        case rel => exact ⟨i + 1, _, by omega, rfl, by go_num, hm3⟩
        case measure => simp [intOf]; omega
      · have hdn := decide_eq_false hn
        go_wp2_with fail
        obtain ⟨wa, rfl⟩ : ∃ wa : World, wa = wr := ⟨_, rfl⟩
        go_loopw [3, 5] (fun s3 s5 ws => ∃ (i : Nat) (n : Int), i ≤ x.lks.l.length ∧ s3 = .int .i64 n ∧ s5 = .int .i64 (i : Int) ∧ Mod (fun _ => False) w1 ws) (fun _ s5 _ => x.lks.l.length - (intOf s5).toNat)
        case atStart => exact ⟨0, _, by omega, rfl, rfl, hm⟩
        case round =>
          clear hm kp1 mm
          obtain ⟨i, n, hi, rfl, rfl, hm⟩ := hrel
          have kp1 := hm.at0 KP.out
          have mm := m1.trans hm
          by_cases hlt : i < x.lks.l.length
          · have hdl : decide ((i : Int) < (x.lks.l.length : Int)) = true := decide_eq_true (by omega)
            by_cases hn : n < 20000
            · have hdn := decide_eq_true hn
              obtain ⟨y, hy⟩ : ∃ y, x.lks.l[i]? = some y := ⟨_, List.getElem?_eq_getElem hlt⟩
              obtain ⟨g, o, C, U, fr, ha, kg, c1, c2⟩ := lo_parts (HK.out.mod0 mm) hy
              clear hy
              go_upto_region 9 with fail
              have Lkp1 := lt_size kp1
              have Lkg := lt_size kg
              refine wp_pass (C := fun _ _ _ => False) (κ := fun i => [0, 0, 0, 0, 1, 0, 0, 0, 1, 0, 0, 0, 0, 0, 1, 0, 0, 0, 1, 0, 0, 0].getD i 0) [0, 1, 2, 3, 4, 5, 6, 7, 8, 9, 10, 11, 12, 13, 14, 15, 16, 17, 18, 19, 20, 21] (by kernel_rfl) (by kernel_rfl) (fun _ _ d _ _ h => by cases d <;> first | exact h | exact absurd h (hP _ _ _)) ?_
              (refine TD.val0 (v := ?v25) (by simp only [zA, zB, zC]; rfl) rfl ?hw25 (fun w1 => ?hy25) ?hn25; (case hw25 => rfl); (case hy25 => (go_simp; (try with_reducible rfl))); (try simp only [Act.put, zF, zG, zH]))
              (refine TD.val0 (v := ?v26) (by simp only [zA, zB, zC]; rfl) rfl ?hw26 (fun w1 => ?hy26) ?hn26; (case hw26 => rfl); (case hy26 => (go_simp; (try with_reducible rfl))); (try simp only [Act.put, zF, zG, zH]))
              (refine TD.val0 (v := ?v27) (by simp only [zA, zB, zC]; rfl) rfl ?hw27 (fun w1 => ?hy27) ?hn27; (case hw27 => rfl); (case hy27 => (go_simp; (try with_reducible rfl))); (try simp only [Act.put, zF, zG, zH]))
              (refine TD.val0 (v := ?v28) (by simp only [zA, zB, zC]; rfl) rfl ?hw28 (fun w1 => ?hy28) ?hn28; (case hw28 => rfl); (case hy28 => (go_simp; (try with_reducible rfl))); (try simp only [Act.put, zF, zG, zH]))
              (refine TD.load (v := ?v29) (p := ?p29) (Mod.refl _ _) (by simp only [zA, zB, zC]; rfl) rfl ?hw29 rfl ?hx29 (fun wq hSq => ?hy29) ?hn29; (case hw29 => rfl); (case hx29 => (simp only [Act.eval, zD, zA, zB, zC, zE]; (try rfl))); (case hy29 => (have kp1q := hSq.at kp1 (fun h => h); have kgq := hSq.at kg (fun h => h); go_simp; (try with_reducible rfl))); (try simp only [Act.put, zF, zG, zH]))
              (refine TD.val0 (v := ?v30) (by simp only [zA, zB, zC]; rfl) rfl ?hw30 (fun w1 => ?hy30) ?hn30; (case hw30 => rfl); (case hy30 => (go_simp; (try with_reducible rfl))); (try simp only [Act.put, zF, zG, zH]))
              (refine TD.val0 (v := ?v31) (by simp only [zA, zB, zC]; rfl) rfl ?hw31 (fun w1 => ?hy31) ?hn31; (case hw31 => rfl); (case hy31 => (go_simp; (try with_reducible rfl))); (try simp only [Act.put, zF, zG, zH]))
              (refine TD.val0 (v := ?v32) (by simp only [zA, zB, zC]; rfl) rfl ?hw32 (fun w1 => ?hy32) ?hn32; (case hw32 => rfl); (case hy32 => (go_simp; (try with_reducible rfl))); (try simp only [Act.put, zF, zG, zH]))
              (refine TD.load (v := ?v33) (p := ?p33) (Mod.refl _ _) (by simp only [zA, zB, zC]; rfl) rfl ?hw33 rfl ?hx33 (fun wq hSq => ?hy33) ?hn33; (case hw33 => rfl); (case hx33 => (simp only [Act.eval, zD, zA, zB, zC, zE]; (try rfl))); (case hy33 => (have kp1q := hSq.at kp1 (fun h => h); have kgq := hSq.at kg (fun h => h); go_simp; (try with_reducible rfl))); (try simp only [Act.put, zF, zG, zH]))
              (refine TD.val0 (v := ?v34) (by simp only [zA, zB, zC]; rfl) rfl ?hw34 (fun w1 => ?hy34) ?hn34; (case hw34 => rfl); (case hy34 => (go_simp; (try with_reducible rfl))); (try simp only [Act.put, zF, zG, zH]))
              (refine TD.val0 (v := ?v35) (by simp only [zA, zB, zC]; rfl) rfl ?hw35 (fun w1 => ?hy35) ?hn35; (case hw35 => rfl); (case hy35 => (go_simp; (try with_reducible rfl))); (try simp only [Act.put, zF, zG, zH]))
              (refine TD.val0 (v := ?v36) (by simp only [zA, zB, zC]; rfl) rfl ?hw36 (fun w1 => ?hy36) ?hn36; (case hw36 => rfl); (case hy36 => (go_simp; (try with_reducible rfl))); (try simp only [Act.put, zF, zG, zH]))
              (refine TD.val0 (v := ?v37) (by simp only [zA, zB, zC]; rfl) rfl ?hw37 (fun w1 => ?hy37) ?hn37; (case hw37 => rfl); (case hy37 => (go_simp; (try with_reducible rfl))); (try simp only [Act.put, zF, zG, zH]))
              (refine TD.val0 (v := ?v38) (by simp only [zA, zB, zC]; rfl) rfl ?hw38 (fun w1 => ?hy38) ?hn38; (case hw38 => rfl); (case hy38 => (go_simp; (try with_reducible rfl))); (try simp only [Act.put, zF, zG, zH]))
              (refine TD.load (v := ?v39) (p := ?p39) (Mod.refl _ _) (by simp only [zA, zB, zC]; rfl) rfl ?hw39 rfl ?hx39 (fun wq hSq => ?hy39) ?hn39; (case hw39 => rfl); (case hx39 => (simp only [Act.eval, zD, zA, zB, zC, zE]; (try rfl))); (case hy39 => (have kp1q := hSq.at kp1 (fun h => h); have kgq := hSq.at kg (fun h => h); go_simp; (try with_reducible rfl))); (try simp only [Act.put, zF, zG, zH]))
              (refine TD.val0 (v := ?v40) (by simp only [zA, zB, zC]; rfl) rfl ?hw40 (fun w1 => ?hy40) ?hn40; (case hw40 => rfl); (case hy40 => (go_simp; (try with_reducible rfl))); (try simp only [Act.put, zF, zG, zH]))
              (refine TD.val0 (v := ?v41) (by simp only [zA, zB, zC]; rfl) rfl ?hw41 (fun w1 => ?hy41) ?hn41; (case hw41 => rfl); (case hy41 => (go_simp; (try with_reducible rfl))); (try simp only [Act.put, zF, zG, zH]))
              (refine TD.val0 (v := ?v42) (by simp only [zA, zB, zC]; rfl) rfl ?hw42 (fun w1 => ?hy42) ?hn42; (case hw42 => rfl); (case hy42 => (go_simp; (try with_reducible rfl))); (try simp only [Act.put, zF, zG, zH]))
              (refine TD.load (v := ?v43) (p := ?p43) (Mod.refl _ _) (by simp only [zA, zB, zC]; rfl) rfl ?hw43 rfl ?hx43 (fun wq hSq => ?hy43) ?hn43; (case hw43 => rfl); (case hx43 => (simp only [Act.eval, zD, zA, zB, zC, zE]; (try rfl))); (case hy43 => (have kp1q := hSq.at kp1 (fun h => h); have kgq := hSq.at kg (fun h => h); go_simp; (try with_reducible rfl))); (try simp only [Act.put, zF, zG, zH]))
              (refine TD.val0 (v := ?v44) (by simp only [zA, zB, zC]; rfl) rfl ?hw44 (fun w1 => ?hy44) ?hn44; (case hw44 => rfl); (case hy44 => (go_simp; (try with_reducible rfl))); (try simp only [Act.put, zF, zG, zH]))
              (refine TD.val0 (v := ?v45) (by simp only [zA, zB, zC]; rfl) rfl ?hw45 (fun w1 => ?hy45) ?hn45; (case hw45 => rfl); (case hy45 => (go_simp; (try with_reducible rfl))); (try simp only [Act.put, zF, zG, zH]))
              (refine TD.val0 (v := ?v46) (by simp only [zA, zB, zC]; rfl) rfl ?hw46 (fun w1 => ?hy46) ?hn46; (case hw46 => rfl); (case hy46 => (go_simp; (try with_reducible rfl))); (try simp only [Act.put, zF, zG, zH]))
              refine TD.nil (fun w3 hr => ?_)
              replace kp1 := hr.mod.at kp1 (fun h => h)
              replace kg := hr.mod.at kg (fun h => h)
              have hm3 := hm.then0 hr.mod
              clear hr c1 c2 ha
              go_wp2_with fail
              go_roundw
              case rel => exact ⟨i + 1, _, by omega, rfl, by go_num, hm3⟩
              case measure => simp [intOf]; omega
            · have hdn := decide_eq_false hn
              go_upto_region 10 with fail
              by_cases hn : n > 10000
              · have hd := decide_eq_true hn
                go_wp2_with fail
                go_ret
                exact GrR.of true rfl (fun h => by cases h) mm
              · have hd := decide_eq_false hn
                by_cases hx1 : x.ins.l.length > 200
                · have hd1 : decide ((x.ins.l.length : Int) > 200) = true := decide_eq_true (by omega)
                  have hd1n : decide (200 < x.ins.l.length) = true := decide_eq_true (by omega)
                  have Lkp1 := lt_size kp1
                  refine wp_pass0 (C := fun _ _ _ => False) (κ := fun i => [0, 0, 0, 0, 0, 0, 1, 0, 0, 0, 0, 0, 1, 0, 0, 0, 0].getD i 0) [0, 1, 2, 3, 4, 5, 6, 7, 8, 9, 10, 11, 12, 13, 14, 15, 16] (by kernel_rfl) (by kernel_rfl) (fun _ _ d _ _ h => by cases d <;> first | exact h | exact absurd h (hP _ _ _)) ?_
                  (refine TD.val0 (v := ?v47) (by simp only [zA, zB, zC]; rfl) rfl ?hw47 (fun w1 => ?hy47) ?hn47; (case hw47 => rfl); (case hy47 => (go_simp; (try with_reducible rfl))); (try simp only [Act.put, zF, zG, zH]))
                  (refine TD.val0 (v := ?v48) (by simp only [zA, zB, zC]; rfl) rfl ?hw48 (fun w1 => ?hy48) ?hn48; (case hw48 => rfl); (case hy48 => (go_simp; (try with_reducible rfl))); (try simp only [Act.put, zF, zG, zH]))
                  (refine TD.val0 (v := ?v49) (by simp only [zA, zB, zC]; rfl) rfl ?hw49 (fun w1 => ?hy49) ?hn49; (case hw49 => rfl); (case hy49 => (go_simp; (try with_reducible rfl))); (try simp only [Act.put, zF, zG, zH]))
                  (refine TD.val0 (v := ?v50) (by simp only [zA, zB, zC]; rfl) rfl ?hw50 (fun w1 => ?hy50) ?hn50; (case hw50 => rfl); (case hy50 => (go_simp; (try with_reducible rfl))); (try simp only [Act.put, zF, zG, zH]))
                  (refine TD.val0 (v := ?v51) (by simp only [zA, zB, zC]; rfl) rfl ?hw51 (fun w1 => ?hy51) ?hn51; (case hw51 => rfl); (case hy51 => (go_simp; (try with_reducible rfl))); (try simp only [Act.put, zF, zG, zH]))
                  (refine TD.val0 (v := ?v52) (by simp only [zA, zB, zC]; rfl) rfl ?hw52 (fun w1 => ?hy52) ?hn52; (case hw52 => rfl); (case hy52 => (go_simp; (try with_reducible rfl))); (try simp only [Act.put, zF, zG, zH]))
                  (refine TD.load (v := ?v53) (p := ?p53) (Mod.refl _ _) (by simp only [zA, zB, zC]; rfl) rfl ?hw53 rfl ?hx53 (fun wq hSq => ?hy53) ?hn53; (case hw53 => rfl); (case hx53 => (simp only [Act.eval, zD, zA, zB, zC, zE]; (try rfl))); (case hy53 => (have kp1q := hSq.at kp1 (fun h => h); go_simp; (try with_reducible rfl))); (try simp only [Act.put, zF, zG, zH]))
                  (refine TD.val0 (v := ?v54) (by simp only [zA, zB, zC]; rfl) rfl ?hw54 (fun w1 => ?hy54) ?hn54; (case hw54 => rfl); (case hy54 => (go_simp; (try with_reducible rfl))); (try simp only [Act.put, zF, zG, zH]))
                  (refine TD.val0 (v := ?v55) (by simp only [zA, zB, zC]; rfl) rfl ?hw55 (fun w1 => ?hy55) ?hn55; (case hw55 => rfl); (case hy55 => (go_simp; (try with_reducible rfl))); (try simp only [Act.put, zF, zG, zH]))
                  (refine TD.val0 (v := ?v56) (by simp only [zA, zB, zC]; rfl) rfl ?hw56 (fun w1 => ?hy56) ?hn56; (case hw56 => rfl); (case hy56 => (go_simp; (try with_reducible rfl))); (try simp only [Act.put, zF, zG, zH]))
                  (refine TD.val0 (v := ?v57) (by simp only [zA, zB, zC]; rfl) rfl ?hw57 (fun w1 => ?hy57) ?hn57; (case hw57 => rfl); (case hy57 => (go_simp; (try with_reducible rfl))); (try simp only [Act.put, zF, zG, zH]))
                  (refine TD.pass (by simp only [zA, zB, zC]; rfl) rfl ?hw58 ?hn58; (case hw58 => rfl); (try simp only [Act.put, zF, zG, zH]))
                  (refine TD.pass1 (by simp only [zA, zB, zC]; rfl) rfl ?hw59 ?hn59; (case hw59 => rfl); (try simp only [Act.put, zF, zG, zH]))
                  (refine TD.pass (by simp only [zA, zB, zC]; rfl) rfl ?hw60 ?hn60; (case hw60 => rfl); (try simp only [Act.put, zF, zG, zH]))
                  (refine TD.pass (by simp only [zA, zB, zC]; rfl) rfl ?hw61 ?hn61; (case hw61 => rfl); (try simp only [Act.put, zF, zG, zH]))
                  (refine TD.val0 (v := ?v62) (by simp only [zA, zB, zC]; rfl) rfl ?hw62 (fun w1 => ?hy62) ?hn62; (case hw62 => rfl); (case hy62 => (go_simp; (try with_reducible rfl))); (try simp only [Act.put, zF, zG, zH]))
                  (refine TD.val0 (v := ?v63) (by simp only [zA, zB, zC]; rfl) rfl ?hw63 (fun w1 => ?hy63) ?hn63; (case hw63 => rfl); (case hy63 => (go_simp; (try with_reducible rfl))); (try simp only [Act.put, zF, zG, zH]))
                  refine TD.nil (fun we hr => ?_)
                  replace kp1 := hr.mod.at kp1 (fun h => h)
                  have mm := mm.then0 hr.mod
                  clear hr
                  go_wp2_with fail
                  go_ret
                  exact GrR.of true rfl (fun h => by cases h) mm
                · have hd1 : decide ((x.ins.l.length : Int) > 200) = false := decide_eq_false (by omega)
                  have hd1n : decide (200 < x.ins.l.length) = false := decide_eq_false (by omega)
                  by_cases hx2 : x.ro.l.length > 300
                  · have hd2 : decide ((x.ro.l.length : Int) > 300) = true := decide_eq_true (by omega)
                    have hd2n : decide (300 < x.ro.l.length) = true := decide_eq_true (by omega)
                    have Lkp1 := lt_size kp1
                    refine wp_pass0 (C := fun _ _ _ => False) (κ := fun i => [0, 0, 0, 0, 0, 0, 1, 0, 0, 0, 0, 0, 1, 0, 0, 0, 0].getD i 0) [0, 1, 2, 3, 4, 5, 6, 7, 8, 9, 10, 11, 12, 13, 14, 15, 16] (by kernel_rfl) (by kernel_rfl) (fun _ _ d _ _ h => by cases d <;> first | exact h | exact absurd h (hP _ _ _)) ?_
                    (refine TD.val0 (v := ?v64) (by simp only [zA, zB, zC]; rfl) rfl ?hw64 (fun w1 => ?hy64) ?hn64; (case hw64 => rfl); (case hy64 => (go_simp; (try with_reducible rfl))); (try simp only [Act.put, zF, zG, zH]))
                    (refine TD.val0 (v := ?v65) (by simp only [zA, zB, zC]; rfl) rfl ?hw65 (fun w1 => ?hy65) ?hn65; (case hw65 => rfl); (case hy65 => (go_simp; (try with_reducible rfl))); (try simp only [Act.put, zF, zG, zH]))
                    (refine TD.val0 (v := ?v66) (by simp only [zA, zB, zC]; rfl) rfl ?hw66 (fun w1 => ?hy66) ?hn66; (case hw66 => rfl); (case hy66 => (go_simp; (try with_reducible rfl))); (try simp only [Act.put, zF, zG, zH]))
                    (refine TD.val0 (v := ?v67) (by simp only [zA, zB, zC]; rfl) rfl ?hw67 (fun w1 => ?hy67) ?hn67; (case hw67 => rfl); (case hy67 => (go_simp; (try with_reducible rfl))); (try simp only [Act.put, zF, zG, zH]))
                    (refine TD.val0 (v := ?v68) (by simp only [zA, zB, zC]; rfl) rfl ?hw68 (fun w1 => ?hy68) ?hn68; (case hw68 => rfl); (case hy68 => (go_simp; (try with_reducible rfl))); (try simp only [Act.put, zF, zG, zH]))
                    (refine TD.val0 (v := ?v69) (by simp only [zA, zB, zC]; rfl) rfl ?hw69 (fun w1 => ?hy69) ?hn69; (case hw69 => rfl); (case hy69 => (go_simp; (try with_reducible rfl))); (try simp only [Act.put, zF, zG, zH]))
                    (refine TD.load (v := ?v70) (p := ?p70) (Mod.refl _ _) (by simp only [zA, zB, zC]; rfl) rfl ?hw70 rfl ?hx70 (fun wq hSq => ?hy70) ?hn70; (case hw70 => rfl); (case hx70 => (simp only [Act.eval, zD, zA, zB, zC, zE]; (try rfl))); (case hy70 => (have kp1q := hSq.at kp1 (fun h => h); go_simp; (try with_reducible rfl))); (try simp only [Act.put, zF, zG, zH]))
                    (refine TD.val0 (v := ?v71) (by simp only [zA, zB, zC]; rfl) rfl ?hw71 (fun w1 => ?hy71) ?hn71; (case hw71 => rfl); (case hy71 => (go_simp; (try with_reducible rfl))); (try simp only [Act.put, zF, zG, zH]))
                    (refine TD.val0 (v := ?v72) (by simp only [zA, zB, zC]; rfl) rfl ?hw72 (fun w1 => ?hy72) ?hn72; (case hw72 => rfl); (case hy72 => (go_simp; (try with_reducible rfl))); (try simp only [Act.put, zF, zG, zH]))
                    (refine TD.val0 (v := ?v73) (by simp only [zA, zB, zC]; rfl) rfl ?hw73 (fun w1 => ?hy73) ?hn73; (case hw73 => rfl); (case hy73 => (go_simp; (try with_reducible rfl))); (try simp only [Act.put, zF, zG, zH]))
                    (refine TD.val0 (v := ?v74) (by simp only [zA, zB, zC]; rfl) rfl ?hw74 (fun w1 => ?hy74) ?hn74; (case hw74 => rfl); (case hy74 => (go_simp; (try with_reducible rfl))); (try simp only [Act.put, zF, zG, zH]))
                    (refine TD.val0 (v := ?v75) (by simp only [zA, zB, zC]; rfl) rfl ?hw75 (fun w1 => ?hy75) ?hn75; (case hw75 => rfl); (case hy75 => (go_simp; (try with_reducible rfl))); (try simp only [Act.put, zF, zG, zH]))
                    (refine TD.load (v := ?v76) (p := ?p76) (Mod.refl _ _) (by simp only [zA, zB, zC]; rfl) rfl ?hw76 rfl ?hx76 (fun wq hSq => ?hy76) ?hn76; (case hw76 => rfl); (case hx76 => (simp only [Act.eval, zD, zA, zB, zC, zE]; (try rfl))); (case hy76 => (have kp1q := hSq.at kp1 (fun h => h); go_simp; (try with_reducible rfl))); (try simp only [Act.put, zF, zG, zH]))
                    (refine TD.val0 (v := ?v77) (by simp only [zA, zB, zC]; rfl) rfl ?hw77 (fun w1 => ?hy77) ?hn77; (case hw77 => rfl); (case hy77 => (go_simp; (try with_reducible rfl))); (try simp only [Act.put, zF, zG, zH]))
                    (refine TD.val0 (v := ?v78) (by simp only [zA, zB, zC]; rfl) rfl ?hw78 (fun w1 => ?hy78) ?hn78; (case hw78 => rfl); (case hy78 => (go_simp; (try with_reducible rfl))); (try simp only [Act.put, zF, zG, zH]))
                    (refine TD.val0 (v := ?v79) (by simp only [zA, zB, zC]; rfl) rfl ?hw79 (fun w1 => ?hy79) ?hn79; (case hw79 => rfl); (case hy79 => (go_simp; (try with_reducible rfl))); (try simp only [Act.put, zF, zG, zH]))
                    (refine TD.val0 (v := ?v80) (by simp only [zA, zB, zC]; rfl) rfl ?hw80 (fun w1 => ?hy80) ?hn80; (case hw80 => rfl); (case hy80 => (go_simp; (try with_reducible rfl))); (try simp only [Act.put, zF, zG, zH]))
                    refine TD.nil (fun we hr => ?_)
                    replace kp1 := hr.mod.at kp1 (fun h => h)
                    have mm := mm.then0 hr.mod
                    clear hr
                    go_wp2_with fail
                    go_ret
                    exact GrR.of true rfl (fun h => by cases h) mm
                  · have hd2 : decide ((x.ro.l.length : Int) > 300) = false := decide_eq_false (by omega)
                    have hd2n : decide (300 < x.ro.l.length) = false := decide_eq_false (by omega)
                    have Lkp1 := lt_size kp1
                    refine wp_pass0 (C := fun _ _ _ => False) (κ := fun i => [0, 0, 0, 0, 0, 0, 1, 0, 0, 0, 0, 0, 1, 0, 0, 0, 0].getD i 0) [0, 1, 2, 3, 4, 5, 6, 7, 8, 9, 10, 11, 12, 13, 14, 15, 16] (by kernel_rfl) (by kernel_rfl) (fun _ _ d _ _ h => by cases d <;> first | exact h | exact absurd h (hP _ _ _)) ?_
                    (refine TD.val0 (v := ?v81) (by simp only [zA, zB, zC]; rfl) rfl ?hw81 (fun w1 => ?hy81) ?hn81; (case hw81 => rfl); (case hy81 => (go_simp; (try with_reducible rfl))); (try simp only [Act.put, zF, zG, zH]))
                    (refine TD.val0 (v := ?v82) (by simp only [zA, zB, zC]; rfl) rfl ?hw82 (fun w1 => ?hy82) ?hn82; (case hw82 => rfl); (case hy82 => (go_simp; (try with_reducible rfl))); (try simp only [Act.put, zF, zG, zH]))
                    (refine TD.val0 (v := ?v83) (by simp only [zA, zB, zC]; rfl) rfl ?hw83 (fun w1 => ?hy83) ?hn83; (case hw83 => rfl); (case hy83 => (go_simp; (try with_reducible rfl))); (try simp only [Act.put, zF, zG, zH]))
                    (refine TD.val0 (v := ?v84) (by simp only [zA, zB, zC]; rfl) rfl ?hw84 (fun w1 => ?hy84) ?hn84; (case hw84 => rfl); (case hy84 => (go_simp; (try with_reducible rfl))); (try simp only [Act.put, zF, zG, zH]))
                    (refine TD.val0 (v := ?v85) (by simp only [zA, zB, zC]; rfl) rfl ?hw85 (fun w1 => ?hy85) ?hn85; (case hw85 => rfl); (case hy85 => (go_simp; (try with_reducible rfl))); (try simp only [Act.put, zF, zG, zH]))
                    (refine TD.val0 (v := ?v86) (by simp only [zA, zB, zC]; rfl) rfl ?hw86 (fun w1 => ?hy86) ?hn86; (case hw86 => rfl); (case hy86 => (go_simp; (try with_reducible rfl))); (try simp only [Act.put, zF, zG, zH]))
                    (refine TD.load (v := ?v87) (p := ?p87) (Mod.refl _ _) (by simp only [zA, zB, zC]; rfl) rfl ?hw87 rfl ?hx87 (fun wq hSq => ?hy87) ?hn87; (case hw87 => rfl); (case hx87 => (simp only [Act.eval, zD, zA, zB, zC, zE]; (try rfl))); (case hy87 => (have kp1q := hSq.at kp1 (fun h => h); go_simp; (try with_reducible rfl))); (try simp only [Act.put, zF, zG, zH]))
                    (refine TD.val0 (v := ?v88) (by simp only [zA, zB, zC]; rfl) rfl ?hw88 (fun w1 => ?hy88) ?hn88; (case hw88 => rfl); (case hy88 => (go_simp; (try with_reducible rfl))); (try simp only [Act.put, zF, zG, zH]))
                    (refine TD.val0 (v := ?v89) (by simp only [zA, zB, zC]; rfl) rfl ?hw89 (fun w1 => ?hy89) ?hn89; (case hw89 => rfl); (case hy89 => (go_simp; (try with_reducible rfl))); (try simp only [Act.put, zF, zG, zH]))
                    (refine TD.val0 (v := ?v90) (by simp only [zA, zB, zC]; rfl) rfl ?hw90 (fun w1 => ?hy90) ?hn90; (case hw90 => rfl); (case hy90 => (go_simp; (try with_reducible rfl))); (try simp only [Act.put, zF, zG, zH]))
                    (refine TD.val0 (v := ?v91) (by simp only [zA, zB, zC]; rfl) rfl ?hw91 (fun w1 => ?hy91) ?hn91; (case hw91 => rfl); (case hy91 => (go_simp; (try with_reducible rfl))); (try simp only [Act.put, zF, zG, zH]))
                    (refine TD.val0 (v := ?v92) (by simp only [zA, zB, zC]; rfl) rfl ?hw92 (fun w1 => ?hy92) ?hn92; (case hw92 => rfl); (case hy92 => (go_simp; (try with_reducible rfl))); (try simp only [Act.put, zF, zG, zH]))
                    (refine TD.load (v := ?v93) (p := ?p93) (Mod.refl _ _) (by simp only [zA, zB, zC]; rfl) rfl ?hw93 rfl ?hx93 (fun wq hSq => ?hy93) ?hn93; (case hw93 => rfl); (case hx93 => (simp only [Act.eval, zD, zA, zB, zC, zE]; (try rfl))); (case hy93 => (have kp1q := hSq.at kp1 (fun h => h); go_simp; (try with_reducible rfl))); (try simp only [Act.put, zF, zG, zH]))
                    (refine TD.val0 (v := ?v94) (by simp only [zA, zB, zC]; rfl) rfl ?hw94 (fun w1 => ?hy94) ?hn94; (case hw94 => rfl); (case hy94 => (go_simp; (try with_reducible rfl))); (try simp only [Act.put, zF, zG, zH]))
                    (refine TD.val0 (v := ?v95) (by simp only [zA, zB, zC]; rfl) rfl ?hw95 (fun w1 => ?hy95) ?hn95; (case hw95 => rfl); (case hy95 => (go_simp; (try with_reducible rfl))); (try simp only [Act.put, zF, zG, zH]))
                    (refine TD.val0 (v := ?v96) (by simp only [zA, zB, zC]; rfl) rfl ?hw96 (fun w1 => ?hy96) ?hn96; (case hw96 => rfl); (case hy96 => (go_simp; (try with_reducible rfl))); (try simp only [Act.put, zF, zG, zH]))
                    (refine TD.val0 (v := ?v97) (by simp only [zA, zB, zC]; rfl) rfl ?hw97 (fun w1 => ?hy97) ?hn97; (case hw97 => rfl); (case hy97 => (go_simp; (try with_reducible rfl))); (try simp only [Act.put, zF, zG, zH]))
                    refine TD.nil (fun we hr => ?_)
                    replace kp1 := hr.mod.at kp1 (fun h => h)
                    have mm := mm.then0 hr.mod
                    clear hr
                    go_wp2_with fail
                    go_ret
                    exact GrR.of false rfl (fun _ => ⟨by omega, by omega⟩) mm
          · have hdl : decide ((i : Int) < (x.lks.l.length : Int)) = false := decide_eq_false (by omega)
            go_upto_region 10 with fail
            by_cases hn : n > 10000
            · have hd := decide_eq_true hn
              go_wp2_with fail
              go_ret
              exact GrR.of true rfl (fun h => by cases h) mm
            · have hd := decide_eq_false hn
              by_cases hx1 : x.ins.l.length > 200
              · have hd1 : decide ((x.ins.l.length : Int) > 200) = true := decide_eq_true (by omega)
                have hd1n : decide (200 < x.ins.l.length) = true := decide_eq_true (by omega)
                have Lkp1 := lt_size kp1
                refine wp_pass0 (C := fun _ _ _ => False) (κ := fun i => [0, 0, 0, 0, 0, 0, 1, 0, 0, 0, 0, 0, 1, 0, 0, 0, 0].getD i 0) [0, 1, 2, 3, 4, 5, 6, 7, 8, 9, 10, 11, 12, 13, 14, 15, 16] (by kernel_rfl) (by kernel_rfl) (fun _ _ d _ _ h => by cases d <;> first | exact h | exact absurd h (hP _ _ _)) ?_
                (refine TD.val0 (v := ?v98) (by simp only [zA, zB, zC]; rfl) rfl ?hw98 (fun w1 => ?hy98) ?hn98; (case hw98 => rfl); (case hy98 => (go_simp; (try with_reducible rfl))); (try simp only [Act.put, zF, zG, zH]))
                (refine TD.val0 (v := ?v99) (by simp only [zA, zB, zC]; rfl) rfl ?hw99 (fun w1 => ?hy99) ?hn99; (case hw99 => rfl); (case hy99 => (go_simp; (try with_reducible rfl))); (try simp only [Act.put, zF, zG, zH]))
                (refine TD.val0 (v := ?v100) (by simp only [zA, zB, zC]; rfl) rfl ?hw100 (fun w1 => ?hy100) ?hn100; (case hw100 => rfl); (case hy100 => (go_simp; (try with_reducible rfl))); (try simp only [Act.put, zF, zG, zH]))
                (refine TD.val0 (v := ?v101) (by simp only [zA, zB, zC]; rfl) rfl ?hw101 (fun w1 => ?hy101) ?hn101; (case hw101 => rfl); (case hy101 => (go_simp; (try with_reducible rfl))); (try simp only [Act.put, zF, zG, zH]))
                (refine TD.val0 (v := ?v102) (by simp only [zA, zB, zC]; rfl) rfl ?hw102 (fun w1 => ?hy102) ?hn102; (case hw102 => rfl); (case hy102 => (go_simp; (try with_reducible rfl))); (try simp only [Act.put, zF, zG, zH]))
                (refine TD.val0 (v := ?v103) (by simp only [zA, zB, zC]; rfl) rfl ?hw103 (fun w1 => ?hy103) ?hn103; (case hw103 => rfl); (case hy103 => (go_simp; (try with_reducible rfl))); (try simp only [Act.put, zF, zG, zH]))
                (refine TD.load (v := ?v104) (p := ?p104) (Mod.refl _ _) (by simp only [zA, zB, zC]; rfl) rfl ?hw104 rfl ?hx104 (fun wq hSq => ?hy104) ?hn104; (case hw104 => rfl); (case hx104 => (simp only [Act.eval, zD, zA, zB, zC, zE]; (try rfl))); (case hy104 => (have kp1q := hSq.at kp1 (fun h => h); go_simp; (try with_reducible rfl))); (try simp only [Act.put, zF, zG, zH]))
                (refine TD.val0 (v := ?v105) (by simp only [zA, zB, zC]; rfl) rfl ?hw105 (fun w1 => ?hy105) ?hn105; (case hw105 => rfl); (case hy105 => (go_simp; (try with_reducible rfl))); (try simp only [Act.put, zF, zG, zH]))
                (refine TD.val0 (v := ?v106) (by simp only [zA, zB, zC]; rfl) rfl ?hw106 (fun w1 => ?hy106) ?hn106; (case hw106 => rfl); (case hy106 => (go_simp; (try with_reducible rfl))); (try simp only [Act.put, zF, zG, zH]))
                (refine TD.val0 (v := ?v107) (by simp only [zA, zB, zC]; rfl) rfl ?hw107 (fun w1 => ?hy107) ?hn107; (case hw107 => rfl); (case hy107 => (go_simp; (try with_reducible rfl))); (try simp only [Act.put, zF, zG, zH]))
                (refine TD.val0 (v := ?v108) (by simp only [zA, zB, zC]; rfl) rfl ?hw108 (fun w1 => ?hy108) ?hn108; (case hw108 => rfl); (case hy108 => (go_simp; (try with_reducible rfl))); (try simp only [Act.put, zF, zG, zH]))
                (refine TD.pass (by simp only [zA, zB, zC]; rfl) rfl ?hw109 ?hn109; (case hw109 => rfl); (try simp only [Act.put, zF, zG, zH]))
                (refine TD.pass1 (by simp only [zA, zB, zC]; rfl) rfl ?hw110 ?hn110; (case hw110 => rfl); (try simp only [Act.put, zF, zG, zH]))
                (refine TD.pass (by simp only [zA, zB, zC]; rfl) rfl ?hw111 ?hn111; (case hw111 => rfl); (try simp only [Act.put, zF, zG, zH]))
                (refine TD.pass (by simp only [zA, zB, zC]; rfl) rfl ?hw112 ?hn112; (case hw112 => rfl); (try simp only [Act.put, zF, zG, zH]))
                (refine TD.val0 (v := ?v113) (by simp only [zA, zB, zC]; rfl) rfl ?hw113 (fun w1 => ?hy113) ?hn113; (case hw113 => rfl); (case hy113 => (go_simp; (try with_reducible rfl))); (try simp only [Act.put, zF, zG, zH]))
                (refine TD.val0 (v := ?v114) (by simp only [zA, zB, zC]; rfl) rfl ?hw114 (fun w1 => ?hy114) ?hn114; (case hw114 => rfl); (case hy114 => (go_simp; (try with_reducible rfl))); (try simp only [Act.put, zF, zG, zH]))
                refine TD.nil (fun we hr => ?_)
                replace kp1 := hr.mod.at kp1 (fun h => h)
                have mm := mm.then0 hr.mod
                clear hr
                go_wp2_with fail
                go_ret
                exact GrR.of true rfl (fun h => by cases h) mm
              · have hd1 : decide ((x.ins.l.length : Int) > 200) = false := decide_eq_false (by omega)
                have hd1n : decide (200 < x.ins.l.length) = false := decide_eq_false (by omega)
                by_cases hx2 : x.ro.l.length > 300
                · have hd2 : decide ((x.ro.l.length : Int) > 300) = true := decide_eq_true (by omega)
                  have hd2n : decide (300 < x.ro.l.length) = true := decide_eq_true (by omega)
                  have Lkp1 := lt_size kp1
                  refine wp_pass0 (C := fun _ _ _ => False) (κ := fun i => [0, 0, 0, 0, 0, 0, 1, 0, 0, 0, 0, 0, 1, 0, 0, 0, 0].getD i 0) [0, 1, 2, 3, 4, 5, 6, 7, 8, 9, 10, 11, 12, 13, 14, 15, 16] (by kernel_rfl) (by kernel_rfl) (fun _ _ d _ _ h => by cases d <;> first | exact h | exact absurd h (hP _ _ _)) ?_
                  (refine TD.val0 (v := ?v115) (by simp only [zA, zB, zC]; rfl) rfl ?hw115 (fun w1 => ?hy115) ?hn115; (case hw115 => rfl); (case hy115 => (go_simp; (try with_reducible rfl))); (try simp only [Act.put, zF, zG, zH]))
                  (refine TD.val0 (v := ?v116) (by simp only [zA, zB, zC]; rfl) rfl ?hw116 (fun w1 => ?hy116) ?hn116; (case hw116 => rfl); (case hy116 => (go_simp; (try with_reducible rfl))); (try simp only [Act.put, zF, zG, zH]))
                  (refine TD.val0 (v := ?v117) (by simp only [zA, zB, zC]; rfl) rfl ?hw117 (fun w1 => ?hy117) ?hn117; (case hw117 => rfl); (case hy117 => (go_simp; (try with_reducible rfl))); (try simp only [Act.put, zF, zG, zH]))
                  (refine TD.val0 (v := ?v118) (by simp only [zA, zB, zC]; rfl) rfl ?hw118 (fun w1 => ?hy118) ?hn118; (case hw118 => rfl); (case hy118 => (go_simp; (try with_reducible rfl))); (try simp only [Act.put, zF, zG, zH]))
                  (refine TD.val0 (v := ?v119) (by simp only [zA, zB, zC]; rfl) rfl ?hw119 (fun w1 => ?hy119) ?hn119; (case hw119 => rfl); (case hy119 => (go_simp; (try with_reducible rfl))); (try simp only [Act.put, zF, zG, zH]))
                  (refine TD.val0 (v := ?v120) (by simp only [zA, zB, zC]; rfl) rfl ?hw120 (fun w1 => ?hy120) ?hn120; (case hw120 => rfl); (case hy120 => (go_simp; (try with_reducible rfl))); (try simp only [Act.put, zF, zG, zH]))
                  (refine TD.load (v := ?v121) (p := ?p121) (Mod.refl _ _) (by simp only [zA, zB, zC]; rfl) rfl ?hw121 rfl ?hx121 (fun wq hSq => ?hy121) ?hn121; (case hw121 => rfl); (case hx121 => (simp only [Act.eval, zD, zA, zB, zC, zE]; (try rfl))); (case hy121 => (have kp1q := hSq.at kp1 (fun h => h); go_simp; (try with_reducible rfl))); (try simp only [Act.put, zF, zG, zH]))
                  (refine TD.val0 (v := ?v122) (by simp only [zA, zB, zC]; rfl) rfl ?hw122 (fun w1 => ?hy122) ?hn122; (case hw122 => rfl); (case hy122 => (go_simp; (try with_reducible rfl))); (try simp only [Act.put, zF, zG, zH]))
                  (refine TD.val0 (v := ?v123) (by simp only [zA, zB, zC]; rfl) rfl ?hw123 (fun w1 => ?hy123) ?hn123; (case hw123 => rfl); (case hy123 => (go_simp; (try with_reducible rfl))); (try simp only [Act.put, zF, zG, zH]))
                  (refine TD.val0 (v := ?v124) (by simp only [zA, zB, zC]; rfl) rfl ?hw124 (fun w1 => ?hy124) ?hn124; (case hw124 => rfl); (case hy124 => (go_simp; (try with_reducible rfl))); (try simp only [Act.put, zF, zG, zH]))
                  (refine TD.val0 (v := ?v125) (by simp only [zA, zB, zC]; rfl) rfl ?hw125 (fun w1 => ?hy125) ?hn125; (case hw125 => rfl); (case hy125 => (go_simp; (try with_reducible rfl))); (try simp only [Act.put, zF, zG, zH]))
                  (refine TD.val0 (v := ?v126) (by simp only [zA, zB, zC]; rfl) rfl ?hw126 (fun w1 => ?hy126) ?hn126; (case hw126 => rfl); (case hy126 => (go_simp; (try with_reducible rfl))); (try simp only [Act.put, zF, zG, zH]))
                  (refine TD.load (v := ?v127) (p := ?p127) (Mod.refl _ _) (by simp only [zA, zB, zC]; rfl) rfl ?hw127 rfl ?hx127 (fun wq hSq => ?hy127) ?hn127; (case hw127 => rfl); (case hx127 => (simp only [Act.eval, zD, zA, zB, zC, zE]; (try rfl))); (case hy127 => (have kp1q := hSq.at kp1 (fun h => h); go_simp; (try with_reducible rfl))); (try simp only [Act.put, zF, zG, zH]))
                  (refine TD.val0 (v := ?v128) (by simp only [zA, zB, zC]; rfl) rfl ?hw128 (fun w1 => ?hy128) ?hn128; (case hw128 => rfl); (case hy128 => (go_simp; (try with_reducible rfl))); (try simp only [Act.put, zF, zG, zH]))
                  (refine TD.val0 (v := ?v129) (by simp only [zA, zB, zC]; rfl) rfl ?hw129 (fun w1 => ?hy129) ?hn129; (case hw129 => rfl); (case hy129 => (go_simp; (try with_reducible rfl))); (try simp only [Act.put, zF, zG, zH]))
                  (refine TD.val0 (v := ?v130) (by simp only [zA, zB, zC]; rfl) rfl ?hw130 (fun w1 => ?hy130) ?hn130; (case hw130 => rfl); (case hy130 => (go_simp; (try with_reducible rfl))); (try simp only [Act.put, zF, zG, zH]))
                  (refine TD.val0 (v := ?v131) (by simp only [zA, zB, zC]; rfl) rfl ?hw131 (fun w1 => ?hy131) ?hn131; (case hw131 => rfl); (case hy131 => (go_simp; (try with_reducible rfl))); (try simp only [Act.put, zF, zG, zH]))
                  refine TD.nil (fun we hr => ?_)
                  replace kp1 := hr.mod.at kp1 (fun h => h)
                  have mm := mm.then0 hr.mod
                  clear hr
                  go_wp2_with fail
                  go_ret
                  exact GrR.of true rfl (fun h => by cases h) mm
                · have hd2 : decide ((x.ro.l.length : Int) > 300) = false := decide_eq_false (by omega)
                  have hd2n : decide (300 < x.ro.l.length) = false := decide_eq_false (by omega)
                  have Lkp1 := lt_size kp1
                  refine wp_pass0 (C := fun _ _ _ => False) (κ := fun i => [0, 0, 0, 0, 0, 0, 1, 0, 0, 0, 0, 0, 1, 0, 0, 0, 0].getD i 0) [0, 1, 2, 3, 4, 5, 6, 7, 8, 9, 10, 11, 12, 13, 14, 15, 16] (by kernel_rfl) (by kernel_rfl) (fun _ _ d _ _ h => by cases d <;> first | exact h | exact absurd h (hP _ _ _)) ?_
                  (refine TD.val0 (v := ?v132) (by simp only [zA, zB, zC]; rfl) rfl ?hw132 (fun w1 => ?hy132) ?hn132; (case hw132 => rfl); (case hy132 => (go_simp; (try with_reducible rfl))); (try simp only [Act.put, zF, zG, zH]))
                  (refine TD.val0 (v := ?v133) (by simp only [zA, zB, zC]; rfl) rfl ?hw133 (fun w1 => ?hy133) ?hn133; (case hw133 => rfl); (case hy133 => (go_simp; (try with_reducible rfl))); (try simp only [Act.put, zF, zG, zH]))
                  (refine TD.val0 (v := ?v134) (by simp only [zA, zB, zC]; rfl) rfl ?hw134 (fun w1 => ?hy134) ?hn134; (case hw134 => rfl); (case hy134 => (go_simp; (try with_reducible rfl))); (try simp only [Act.put, zF, zG, zH]))
                  (refine TD.val0 (v := ?v135) (by simp only [zA, zB, zC]; rfl) rfl ?hw135 (fun w1 => ?hy135) ?hn135; (case hw135 => rfl); (case hy135 => (go_simp; (try with_reducible rfl))); (try simp only [Act.put, zF, zG, zH]))
                  (refine TD.val0 (v := ?v136) (by simp only [zA, zB, zC]; rfl) rfl ?hw136 (fun w1 => ?hy136) ?hn136; (case hw136 => rfl); (case hy136 => (go_simp; (try with_reducible rfl))); (try simp only [Act.put, zF, zG, zH]))
                  (refine TD.val0 (v := ?v137) (by simp only [zA, zB, zC]; rfl) rfl ?hw137 (fun w1 => ?hy137) ?hn137; (case hw137 => rfl); (case hy137 => (go_simp; (try with_reducible rfl))); (try simp only [Act.put, zF, zG, zH]))
                  (refine TD.load (v := ?v138) (p := ?p138) (Mod.refl _ _) (by simp only [zA, zB, zC]; rfl) rfl ?hw138 rfl ?hx138 (fun wq hSq => ?hy138) ?hn138; (case hw138 => rfl); (case hx138 => (simp only [Act.eval, zD, zA, zB, zC, zE]; (try rfl))); (case hy138 => (have kp1q := hSq.at kp1 (fun h => h); go_simp; (try with_reducible rfl))); (try simp only [Act.put, zF, zG, zH]))
                  (refine TD.val0 (v := ?v139) (by simp only [zA, zB, zC]; rfl) rfl ?hw139 (fun w1 => ?hy139) ?hn139; (case hw139 => rfl); (case hy139 => (go_simp; (try with_reducible rfl))); (try simp only [Act.put, zF, zG, zH]))
                  (refine TD.val0 (v := ?v140) (by simp only [zA, zB, zC]; rfl) rfl ?hw140 (fun w1 => ?hy140) ?hn140; (case hw140 => rfl); (case hy140 => (go_simp; (try with_reducible rfl))); (try simp only [Act.put, zF, zG, zH]))
                  (refine TD.val0 (v := ?v141) (by simp only [zA, zB, zC]; rfl) rfl ?hw141 (fun w1 => ?hy141) ?hn141; (case hw141 => rfl); (case hy141 => (go_simp; (try with_reducible rfl))); (try simp only [Act.put, zF, zG, zH]))
                  (refine TD.val0 (v := ?v142) (by simp only [zA, zB, zC]; rfl) rfl ?hw142 (fun w1 => ?hy142) ?hn142; (case hw142 => rfl); (case hy142 => (go_simp; (try with_reducible rfl))); (try simp only [Act.put, zF, zG, zH]))
                  (refine TD.val0 (v := ?v143) (by simp only [zA, zB, zC]; rfl) rfl ?hw143 (fun w1 => ?hy143) ?hn143; (case hw143 => rfl); (case hy143 => (go_simp; (try with_reducible rfl))); (try simp only [Act.put, zF, zG, zH]))
                  (refine TD.load (v := ?v144) (p := ?p144) (Mod.refl _ _) (by simp only [zA, zB, zC]; rfl) rfl ?hw144 rfl ?hx144 (fun wq hSq => ?hy144) ?hn144; (case hw144 => rfl); (case hx144 => (simp only [Act.eval, zD, zA, zB, zC, zE]; (try rfl))); (case hy144 => (have kp1q := hSq.at kp1 (fun h => h); go_simp; (try with_reducible rfl))); (try simp only [Act.put, zF, zG, zH]))
                  (refine TD.val0 (v := ?v145) (by simp only [zA, zB, zC]; rfl) rfl ?hw145 (fun w1 => ?hy145) ?hn145; (case hw145 => rfl); (case hy145 => (go_simp; (try with_reducible rfl))); (try simp only [Act.put, zF, zG, zH]))
                  (refine TD.val0 (v := ?v146) (by simp only [zA, zB, zC]; rfl) rfl ?hw146 (fun w1 => ?hy146) ?hn146; (case hw146 => rfl); (case hy146 => (go_simp; (try with_reducible rfl))); (try simp only [Act.put, zF, zG, zH]))
                  (refine TD.val0 (v := ?v147) (by simp only [zA, zB, zC]; rfl) rfl ?hw147 (fun w1 => ?hy147) ?hn147; (case hw147 => rfl); (case hy147 => (go_simp; (try with_reducible rfl))); (try simp only [Act.put, zF, zG, zH]))
                  (refine TD.val0 (v := ?v148) (by simp only [zA, zB, zC]; rfl) rfl ?hw148 (fun w1 => ?hy148) ?hn148; (case hw148 => rfl); (case hy148 => (go_simp; (try with_reducible rfl))); (try simp only [Act.put, zF, zG, zH]))
                  refine TD.nil (fun we hr => ?_)
                  replace kp1 := hr.mod.at kp1 (fun h => h)
                  have mm := mm.then0 hr.mod
                  clear hr
                  go_wp2_with fail
                  go_ret
                  exact GrR.of false rfl (fun _ => ⟨by omega, by omega⟩) mm
    · have hdl : decide ((i : Int) < (x.ins.l.length : Int)) = false := decide_eq_false (by omega)
      go_wp2_with fail
      obtain ⟨wa, rfl⟩ : ∃ wa : World, wa = wr := ⟨_, rfl⟩
      go_loopw [3, 5] (fun s3 s5 ws => ∃ (i : Nat) (n : Int), i ≤ x.lks.l.length ∧ s3 = .int .i64 n ∧ s5 = .int .i64 (i : Int) ∧ Mod (fun _ => False) w1 ws) (fun _ s5 _ => x.lks.l.length - (intOf s5).toNat)
      case atStart => exact ⟨0, _, by omega, rfl, rfl, hm⟩
      case round =>
        clear hm kp1 mm
        obtain ⟨i, n, hi, rfl, rfl, hm⟩ := hrel
        have kp1 := hm.at0 KP.out
        have mm := m1.trans hm
        by_cases hlt : i < x.lks.l.length
        · have hdl : decide ((i : Int) < (x.lks.l.length : Int)) = true := decide_eq_true (by omega)
          by_cases hn : n < 20000
          · have hdn := decide_eq_true hn
            obtain ⟨y, hy⟩ : ∃ y, x.lks.l[i]? = some y := ⟨_, List.getElem?_eq_getElem hlt⟩
            obtain ⟨g, o, C, U, fr, ha, kg, c1, c2⟩ := lo_parts (HK.out.mod0 mm) hy
            clear hy
            go_upto_region 9 with fail
            have Lkp1 := lt_size kp1
            have Lkg := lt_size kg
            refine wp_pass (C := fun _ _ _ => False) (κ := fun i => [0, 0, 0, 0, 1, 0, 0, 0, 1, 0, 0, 0, 0, 0, 1, 0, 0, 0, 1, 0, 0, 0].getD i 0) [0, 1, 2, 3, 4, 5, 6, 7, 8, 9, 10, 11, 12, 13, 14, 15, 16, 17, 18, 19, 20, 21] (by kernel_rfl) (by kernel_rfl) (fun _ _ d _ _ h => by cases d <;> first | exact h | exact absurd h (hP _ _ _)) ?_
            (refine TD.val0 (v := ?v149) (by simp only [zA, zB, zC]; rfl) rfl ?hw149 (fun w1 => ?hy149) ?hn149; (case hw149 => rfl); (case hy149 => (go_simp; (try with_reducible rfl))); (try simp only [Act.put, zF, zG, zH]))
            (refine TD.val0 (v := ?v150) (by simp only [zA, zB, zC]; rfl) rfl ?hw150 (fun w1 => ?hy150) ?hn150; (case hw150 => rfl); (case hy150 => (go_simp; (try with_reducible rfl))); (try simp only [Act.put, zF, zG, zH]))
            (refine TD.val0 (v := ?v151) (by simp only [zA, zB, zC]; rfl) rfl ?hw151 (fun w1 => ?hy151) ?hn151; (case hw151 => rfl); (case hy151 => (go_simp; (try with_reducible rfl))); (try simp only [Act.put, zF, zG, zH]))
            (refine TD.val0 (v := ?v152) (by simp only [zA, zB, zC]; rfl) rfl ?hw152 (fun w1 => ?hy152) ?hn152; (case hw152 => rfl); (case hy152 => (go_simp; (try with_reducible rfl))); (try simp only [Act.put, zF, zG, zH]))
            (refine TD.load (v := ?v153) (p := ?p153) (Mod.refl _ _) (by simp only [zA, zB, zC]; rfl) rfl ?hw153 rfl ?hx153 (fun wq hSq => ?hy153) ?hn153; (case hw153 => rfl); (case hx153 => (simp only [Act.eval, zD, zA, zB, zC, zE]; (try rfl))); (case hy153 => (have kp1q := hSq.at kp1 (fun h => h); have kgq := hSq.at kg (fun h => h); go_simp; (try with_reducible rfl))); (try simp only [Act.put, zF, zG, zH]))
            (refine TD.val0 (v := ?v154) (by simp only [zA, zB, zC]; rfl) rfl ?hw154 (fun w1 => ?hy154) ?hn154; (case hw154 => rfl); (case hy154 => (go_simp; (try with_reducible rfl))); (try simp only [Act.put, zF, zG, zH]))
            (refine TD.val0 (v := ?v155) (by simp only [zA, zB, zC]; rfl) rfl ?hw155 (fun w1 => ?hy155) ?hn155; (case hw155 => rfl); (case hy155 => (go_simp; (try with_reducible rfl))); (try simp only [Act.put, zF, zG, zH]))
            (refine TD.val0 (v := ?v156) (by simp only [zA, zB, zC]; rfl) rfl ?hw156 (fun w1 => ?hy156) ?hn156; (case hw156 => rfl); (case hy156 => (go_simp; (try with_reducible rfl))); (try simp only [Act.put, zF, zG, zH]))
            (refine TD.load (v := ?v157) (p := ?p157) (Mod.refl _ _) (by simp only [zA, zB, zC]; rfl) rfl ?hw157 rfl ?hx157 (fun wq hSq => ?hy157) ?hn157; (case hw157 => rfl); (case hx157 => (simp only [Act.eval, zD, zA, zB, zC, zE]; (try rfl))); (case hy157 => (have kp1q := hSq.at kp1 (fun h => h); have kgq := hSq.at kg (fun h => h); go_simp; (try with_reducible rfl))); (try simp only [Act.put, zF, zG, zH]))
            (refine TD.val0 (v := ?v158) (by simp only [zA, zB, zC]; rfl) rfl ?hw158 (fun w1 => ?hy158) ?hn158; (case hw158 => rfl); (case hy158 => (go_simp; (try with_reducible rfl))); (try simp only [Act.put, zF, zG, zH]))
            (refine TD.val0 (v := ?v159) (by simp only [zA, zB, zC]; rfl) rfl ?hw159 (fun w1 => ?hy159) ?hn159; (case hw159 => rfl); (case hy159 => (go_simp; (try with_reducible rfl))); (try simp only [Act.put, zF, zG, zH]))
            (refine TD.val0 (v := ?v160) (by simp only [zA, zB, zC]; rfl) rfl ?hw160 (fun w1 => ?hy160) ?hn160; (case hw160 => rfl); (case hy160 => (go_simp; (try with_reducible rfl))); (try simp only [Act.put, zF, zG, zH]))
            (refine TD.val0 (v := ?v161) (by simp only [zA, zB, zC]; rfl) rfl ?hw161 (fun w1 => ?hy161) ?hn161; (case hw161 => rfl); (case hy161 => (go_simp; (try with_reducible rfl))); (try simp only [Act.put, zF, zG, zH]))
            (refine TD.val0 (v := ?v162) (by simp only [zA, zB, zC]; rfl) rfl ?hw162 (fun w1 => ?hy162) ?hn162; (case hw162 => rfl); (case hy162 => (go_simp; (try with_reducible rfl))); (try simp only [Act.put, zF, zG, zH]))
            (refine TD.load (v := ?v163) (p := ?p163) (Mod.refl _ _) (by simp only [zA, zB, zC]; rfl) rfl ?hw163 rfl ?hx163 (fun wq hSq => ?hy163) ?hn163; (case hw163 => rfl); (case hx163 => (simp only [Act.eval, zD, zA, zB, zC, zE]; (try rfl))); (case hy163 => (have kp1q := hSq.at kp1 (fun h => h); have kgq := hSq.at kg (fun h => h); go_simp; (try with_reducible rfl))); (try simp only [Act.put, zF, zG, zH]))
            (refine TD.val0 (v := ?v164) (by simp only [zA, zB, zC]; rfl) rfl ?hw164 (fun w1 => ?hy164) ?hn164; (case hw164 => rfl); (case hy164 => (go_simp; (try with_reducible rfl))); (try simp only [Act.put, zF, zG, zH]))
            (refine TD.val0 (v := ?v165) (by simp only [zA, zB, zC]; rfl) rfl ?hw165 (fun w1 => ?hy165) ?hn165; (case hw165 => rfl); (case hy165 => (go_simp; (try with_reducible rfl))); (try simp only [Act.put, zF, zG, zH]))
            (refine TD.val0 (v := ?v166) (by simp only [zA, zB, zC]; rfl) rfl ?hw166 (fun w1 => ?hy166) ?hn166; (case hw166 => rfl); (case hy166 => (go_simp; (try with_reducible rfl))); (try simp only [Act.put, zF, zG, zH]))
            (refine TD.load (v := ?v167) (p := ?p167) (Mod.refl _ _) (by simp only [zA, zB, zC]; rfl) rfl ?hw167 rfl ?hx167 (fun wq hSq => ?hy167) ?hn167; (case hw167 => rfl); (case hx167 => (simp only [Act.eval, zD, zA, zB, zC, zE]; (try rfl))); (case hy167 => (have kp1q := hSq.at kp1 (fun h => h); have kgq := hSq.at kg (fun h => h); go_simp; (try with_reducible rfl))); (try simp only [Act.put, zF, zG, zH]))
            (refine TD.val0 (v := ?v168) (by simp only [zA, zB, zC]; rfl) rfl ?hw168 (fun w1 => ?hy168) ?hn168; (case hw168 => rfl); (case hy168 => (go_simp; (try with_reducible rfl))); (try simp only [Act.put, zF, zG, zH]))
            (refine TD.val0 (v := ?v169) (by simp only [zA, zB, zC]; rfl) rfl ?hw169 (fun w1 => ?hy169) ?hn169; (case hw169 => rfl); (case hy169 => (go_simp; (try with_reducible rfl))); (try simp only [Act.put, zF, zG, zH]))
            (refine TD.val0 (v := ?v170) (by simp only [zA, zB, zC]; rfl) rfl ?hw170 (fun w1 => ?hy170) ?hn170; (case hw170 => rfl); (case hy170 => (go_simp; (try with_reducible rfl))); (try simp only [Act.put, zF, zG, zH]))
            refine TD.nil (fun w3 hr => ?_)
            replace kp1 := hr.mod.at kp1 (fun h => h)
            replace kg := hr.mod.at kg (fun h => h)
            have hm3 := hm.then0 hr.mod
            clear hr c1 c2 ha
            go_wp2_with fail
            go_roundw
            case rel => exact ⟨i + 1, _, by omega, rfl, by go_num, hm3⟩
            case measure => simp [intOf]; omega
          · have hdn := decide_eq_false hn
            go_upto_region 10 with fail
            by_cases hn : n > 10000
            · have hd := decide_eq_true hn
              go_wp2_with fail
              go_ret
              exact GrR.of true rfl (fun h => by cases h) mm
            · have hd := decide_eq_false hn
              by_cases hx1 : x.ins.l.length > 200
              · have hd1 : decide ((x.ins.l.length : Int) > 200) = true := decide_eq_true (by omega)
                have hd1n : decide (200 < x.ins.l.length) = true := decide_eq_true (by omega)
                have Lkp1 := lt_size kp1
                refine wp_pass0 (C := fun _ _ _ => False) (κ := fun i => [0, 0, 0, 0, 0, 0, 1, 0, 0, 0, 0, 0, 1, 0, 0, 0, 0].getD i 0) [0, 1, 2, 3, 4, 5, 6, 7, 8, 9, 10, 11, 12, 13, 14, 15, 16] (by kernel_rfl) (by kernel_rfl) (fun _ _ d _ _ h => by cases d <;> first | exact h | exact absurd h (hP _ _ _)) ?_
                (refine TD.val0 (v := ?v171) (by simp only [zA, zB, zC]; rfl) rfl ?hw171 (fun w1 => ?hy171) ?hn171; (case hw171 => rfl); (case hy171 => (go_simp; (try with_reducible rfl))); (try simp only [Act.put, zF, zG, zH]))
                (refine TD.val0 (v := ?v172) (by simp only [zA, zB, zC]; rfl) rfl ?hw172 (fun w1 => ?hy172) ?hn172; (case hw172 => rfl); (case hy172 => (go_simp; (try with_reducible rfl))); (try simp only [Act.put, zF, zG, zH]))
                (refine TD.val0 (v := ?v173) (by simp only [zA, zB, zC]; rfl) rfl ?hw173 (fun w1 => ?hy173) ?hn173; (case hw173 => rfl); (case hy173 => (go_simp; (try with_reducible rfl))); (try simp only [Act.put, zF, zG, zH]))
                (refine TD.val0 (v := ?v174) (by simp only [zA, zB, zC]; rfl) rfl ?hw174 (fun w1 => ?hy174) ?hn174; (case hw174 => rfl); (case hy174 => (go_simp; (try with_reducible rfl))); (try simp only [Act.put, zF, zG, zH]))
                (refine TD.val0 (v := ?v175) (by simp only [zA, zB, zC]; rfl) rfl ?hw175 (fun w1 => ?hy175) ?hn175; (case hw175 => rfl); (case hy175 => (go_simp; (try with_reducible rfl))); (try simp only [Act.put, zF, zG, zH]))
                (refine TD.val0 (v := ?v176) (by simp only [zA, zB, zC]; rfl) rfl ?hw176 (fun w1 => ?hy176) ?hn176; (case hw176 => rfl); (case hy176 => (go_simp; (try with_reducible rfl))); (try simp only [Act.put, zF, zG, zH]))
                (refine TD.load (v := ?v177) (p := ?p177) (Mod.refl _ _) (by simp only [zA, zB, zC]; rfl) rfl ?hw177 rfl ?hx177 (fun wq hSq => ?hy177) ?hn177; (case hw177 => rfl); (case hx177 => (simp only [Act.eval, zD, zA, zB, zC, zE]; (try rfl))); (case hy177 => (have kp1q := hSq.at kp1 (fun h => h); go_simp; (try with_reducible rfl))); (try simp only [Act.put, zF, zG, zH]))
                (refine TD.val0 (v := ?v178) (by simp only [zA, zB, zC]; rfl) rfl ?hw178 (fun w1 => ?hy178) ?hn178; (case hw178 => rfl); (case hy178 => (go_simp; (try with_reducible rfl))); (try simp only [Act.put, zF, zG, zH]))
                (refine TD.val0 (v := ?v179) (by simp only [zA, zB, zC]; rfl) rfl ?hw179 (fun w1 => ?hy179) ?hn179; (case hw179 => rfl); (case hy179 => (go_simp; (try with_reducible rfl))); (try simp only [Act.put, zF, zG, zH]))
                (refine TD.val0 (v := ?v180) (by simp only [zA, zB, zC]; rfl) rfl ?hw180 (fun w1 => ?hy180) ?hn180; (case hw180 => rfl); (case hy180 => (go_simp; (try with_reducible rfl))); (try simp only [Act.put, zF, zG, zH]))
                (refine TD.val0 (v := ?v181) (by simp only [zA, zB, zC]; rfl) rfl ?hw181 (fun w1 => ?hy181) ?hn181; (case hw181 => rfl); (case hy181 => (go_simp; (try with_reducible rfl))); (try simp only [Act.put, zF, zG, zH]))
                (refine TD.pass (by simp only [zA, zB, zC]; rfl) rfl ?hw182 ?hn182; (case hw182 => rfl); (try simp only [Act.put, zF, zG, zH]))
                (refine TD.pass1 (by simp only [zA, zB, zC]; rfl) rfl ?hw183 ?hn183; (case hw183 => rfl); (try simp only [Act.put, zF, zG, zH]))
                (refine TD.pass (by simp only [zA, zB, zC]; rfl) rfl ?hw184 ?hn184; (case hw184 => rfl); (try simp only [Act.put, zF, zG, zH]))
                (refine TD.pass (by simp only [zA, zB, zC]; rfl) rfl ?hw185 ?hn185; (case hw185 => rfl); (try simp only [Act.put, zF, zG, zH]))
                (refine TD.val0 (v := ?v186) (by simp only [zA, zB, zC]; rfl) rfl ?hw186 (fun w1 => ?hy186) ?hn186; (case hw186 => rfl); (case hy186 => (go_simp; (try with_reducible rfl))); (try simp only [Act.put, zF, zG, zH]))
                (refine TD.val0 (v := ?v187) (by simp only [zA, zB, zC]; rfl) rfl ?hw187 (fun w1 => ?hy187) ?hn187; (case hw187 => rfl); (case hy187 => (go_simp; (try with_reducible rfl))); (try simp only [Act.put, zF, zG, zH]))
                refine TD.nil (fun we hr => ?_)
                replace kp1 := hr.mod.at kp1 (fun h => h)
                have mm := mm.then0 hr.mod
                clear hr
                go_wp2_with fail
                go_ret
                exact GrR.of true rfl (fun h => by cases h) mm
              · have hd1 : decide ((x.ins.l.length : Int) > 200) = false := decide_eq_false (by omega)
                have hd1n : decide (200 < x.ins.l.length) = false := decide_eq_false (by omega)
                by_cases hx2 : x.ro.l.length > 300
                · have hd2 : decide ((x.ro.l.length : Int) > 300) = true := decide_eq_true (by omega)
                  have hd2n : decide (300 < x.ro.l.length) = true := decide_eq_true (by omega)
                  have Lkp1 := lt_size kp1
                  refine wp_pass0 (C := fun _ _ _ => False) (κ := fun i => [0, 0, 0, 0, 0, 0, 1, 0, 0, 0, 0, 0, 1, 0, 0, 0, 0].getD i 0) [0, 1, 2, 3, 4, 5, 6, 7, 8, 9, 10, 11, 12, 13, 14, 15, 16] (by kernel_rfl) (by kernel_rfl) (fun _ _ d _ _ h => by cases d <;> first | exact h | exact absurd h (hP _ _ _)) ?_
                  (refine TD.val0 (v := ?v188) (by simp only [zA, zB, zC]; rfl) rfl ?hw188 (fun w1 => ?hy188) ?hn188; (case hw188 => rfl); (case hy188 => (go_simp; (try with_reducible rfl))); (try simp only [Act.put, zF, zG, zH]))
                  (refine TD.val0 (v := ?v189) (by simp only [zA, zB, zC]; rfl) rfl ?hw189 (fun w1 => ?hy189) ?hn189; (case hw189 => rfl); (case hy189 => (go_simp; (try with_reducible rfl))); (try simp only [Act.put, zF, zG, zH]))
                  (refine TD.val0 (v := ?v190) (by simp only [zA, zB, zC]; rfl) rfl ?hw190 (fun w1 => ?hy190) ?hn190; (case hw190 => rfl); (case hy190 => (go_simp; (try with_reducible rfl))); (try simp only [Act.put, zF, zG, zH]))
                  (refine TD.val0 (v := ?v191) (by simp only [zA, zB, zC]; rfl) rfl ?hw191 (fun w1 => ?hy191) ?hn191; (case hw191 => rfl); (case hy191 => (go_simp; (try with_reducible rfl))); (try simp only [Act.put, zF, zG, zH]))
                  (refine TD.val0 (v := ?v192) (by simp only [zA, zB, zC]; rfl) rfl ?hw192 (fun w1 => ?hy192) ?hn192; (case hw192 => rfl); (case hy192 => (go_simp; (try with_reducible rfl))); (try simp only [Act.put, zF, zG, zH]))
                  (refine TD.val0 (v := ?v193) (by simp only [zA, zB, zC]; rfl) rfl ?hw193 (fun w1 => ?hy193) ?hn193; (case hw193 => rfl); (case hy193 => (go_simp; (try with_reducible rfl))); (try simp only [Act.put, zF, zG, zH]))
                  (refine TD.load (v := ?v194) (p := ?p194) (Mod.refl _ _) (by simp only [zA, zB, zC]; rfl) rfl ?hw194 rfl ?hx194 (fun wq hSq => ?hy194) ?hn194; (case hw194 => rfl); (case hx194 => (simp only [Act.eval, zD, zA, zB, zC, zE]; (try rfl))); (case hy194 => (have kp1q := hSq.at kp1 (fun h => h); go_simp; (try with_reducible rfl))); (try simp only [Act.put, zF, zG, zH]))
                  (refine TD.val0 (v := ?v195) (by simp only [zA, zB, zC]; rfl) rfl ?hw195 (fun w1 => ?hy195) ?hn195; (case hw195 => rfl); (case hy195 => (go_simp; (try with_reducible rfl))); (try simp only [Act.put, zF, zG, zH]))
                  (refine TD.val0 (v := ?v196) (by simp only [zA, zB, zC]; rfl) rfl ?hw196 (fun w1 => ?hy196) ?hn196; (case hw196 => rfl); (case hy196 => (go_simp; (try with_reducible rfl))); (try simp only [Act.put, zF, zG, zH]))
                  (refine TD.val0 (v := ?v197) (by simp only [zA, zB, zC]; rfl) rfl ?hw197 (fun w1 => ?hy197) ?hn197; (case hw197 => rfl); (case hy197 => (go_simp; (try with_reducible rfl))); (try simp only [Act.put, zF, zG, zH]))
                  (refine TD.val0 (v := ?v198) (by simp only [zA, zB, zC]; rfl) rfl ?hw198 (fun w1 => ?hy198) ?hn198; (case hw198 => rfl); (case hy198 => (go_simp; (try with_reducible rfl))); (try simp only [Act.put, zF, zG, zH]))
                  (refine TD.val0 (v := ?v199) (by simp only [zA, zB, zC]; rfl) rfl ?hw199 (fun w1 => ?hy199) ?hn199; (case hw199 => rfl); (case hy199 => (go_simp; (try with_reducible rfl))); (try simp only [Act.put, zF, zG, zH]))
                  (refine TD.load (v := ?v200) (p := ?p200) (Mod.refl _ _) (by simp only [zA, zB, zC]; rfl) rfl ?hw200 rfl ?hx200 (fun wq hSq => ?hy200) ?hn200; (case hw200 => rfl); (case hx200 => (simp only [Act.eval, zD, zA, zB, zC, zE]; (try rfl))); (case hy200 => (have kp1q := hSq.at kp1 (fun h => h); go_simp; (try with_reducible rfl))); (try simp only [Act.put, zF, zG, zH]))
                  (refine TD.val0 (v := ?v201) (by simp only [zA, zB, zC]; rfl) rfl ?hw201 (fun w1 => ?hy201) ?hn201; (case hw201 => rfl); (case hy201 => (go_simp; (try with_reducible rfl))); (try simp only [Act.put, zF, zG, zH]))
                  (refine TD.val0 (v := ?v202) (by simp only [zA, zB, zC]; rfl) rfl ?hw202 (fun w1 => ?hy202) ?hn202; (case hw202 => rfl); (case hy202 => (go_simp; (try with_reducible rfl))); (try simp only [Act.put, zF, zG, zH]))
                  (refine TD.val0 (v := ?v203) (by simp only [zA, zB, zC]; rfl) rfl ?hw203 (fun w1 => ?hy203) ?hn203; (case hw203 => rfl); (case hy203 => (go_simp; (try with_reducible rfl))); (try simp only [Act.put, zF, zG, zH]))
                  (refine TD.val0 (v := ?v204) (by simp only [zA, zB, zC]; rfl) rfl ?hw204 (fun w1 => ?hy204) ?hn204; (case hw204 => rfl); (case hy204 => (go_simp; (try with_reducible rfl))); (try simp only [Act.put, zF, zG, zH]))
                  refine TD.nil (fun we hr => ?_)
                  replace kp1 := hr.mod.at kp1 (fun h => h)
                  have mm := mm.then0 hr.mod
                  clear hr
                  go_wp2_with fail
                  go_ret
                  exact GrR.of true rfl (fun h => by cases h) mm
                · have hd2 : decide ((x.ro.l.length : Int) > 300) = false := decide_eq_false (by omega)
                  have hd2n : decide (300 < x.ro.l.length) = false := decide_eq_false (by omega)
                  have Lkp1 := lt_size kp1
                  refine wp_pass0 (C := fun _ _ _ => False) (κ := fun i => [0, 0, 0, 0, 0, 0, 1, 0, 0, 0, 0, 0, 1, 0, 0, 0, 0].getD i 0) [0, 1, 2, 3, 4, 5, 6, 7, 8, 9, 10, 11, 12, 13, 14, 15, 16] (by kernel_rfl) (by kernel_rfl) (fun _ _ d _ _ h => by cases d <;> first | exact h | exact absurd h (hP _ _ _)) ?_
                  (refine TD.val0 (v := ?v205) (by simp only [zA, zB, zC]; rfl) rfl ?hw205 (fun w1 => ?hy205) ?hn205; (case hw205 => rfl); (case hy205 => (go_simp; (try with_reducible rfl))); (try simp only [Act.put, zF, zG, zH]))
                  (refine TD.val0 (v := ?v206) (by simp only [zA, zB, zC]; rfl) rfl ?hw206 (fun w1 => ?hy206) ?hn206; (case hw206 => rfl); (case hy206 => (go_simp; (try with_reducible rfl))); (try simp only [Act.put, zF, zG, zH]))
                  (refine TD.val0 (v := ?v207) (by simp only [zA, zB, zC]; rfl) rfl ?hw207 (fun w1 => ?hy207) ?hn207; (case hw207 => rfl); (case hy207 => (go_simp; (try with_reducible rfl))); (try simp only [Act.put, zF, zG, zH]))
                  (refine TD.val0 (v := ?v208) (by simp only [zA, zB, zC]; rfl) rfl ?hw208 (fun w1 => ?hy208) ?hn208; (case hw208 => rfl); (case hy208 => (go_simp; (try with_reducible rfl))); (try simp only [Act.put, zF, zG, zH]))
                  (refine TD.val0 (v := ?v209) (by simp only [zA, zB, zC]; rfl) rfl ?hw209 (fun w1 => ?hy209) ?hn209; (case hw209 => rfl); (case hy209 => (go_simp; (try with_reducible rfl))); (try simp only [Act.put, zF, zG, zH]))
                  (refine TD.val0 (v := ?v210) (by simp only [zA, zB, zC]; rfl) rfl ?hw210 (fun w1 => ?hy210) ?hn210; (case hw210 => rfl); (case hy210 => (go_simp; (try with_reducible rfl))); (try simp only [Act.put, zF, zG, zH]))
                  (refine TD.load (v := ?v211) (p := ?p211) (Mod.refl _ _) (by simp only [zA, zB, zC]; rfl) rfl ?hw211 rfl ?hx211 (fun wq hSq => ?hy211) ?hn211; (case hw211 => rfl); (case hx211 => (simp only [Act.eval, zD, zA, zB, zC, zE]; (try rfl))); (case hy211 => (have kp1q := hSq.at kp1 (fun h => h); go_simp; (try with_reducible rfl))); (try simp only [Act.put, zF, zG, zH]))
                  (refine TD.val0 (v := ?v212) (by simp only [zA, zB, zC]; rfl) rfl ?hw212 (fun w1 => ?hy212) ?hn212; (case hw212 => rfl); (case hy212 => (go_simp; (try with_reducible rfl))); (try simp only [Act.put, zF, zG, zH]))
                  (refine TD.val0 (v := ?v213) (by simp only [zA, zB, zC]; rfl) rfl ?hw213 (fun w1 => ?hy213) ?hn213; (case hw213 => rfl); (case hy213 => (go_simp; (try with_reducible rfl))); (try simp only [Act.put, zF, zG, zH]))
                  (refine TD.val0 (v := ?v214) (by simp only [zA, zB, zC]; rfl) rfl ?hw214 (fun w1 => ?hy214) ?hn214; (case hw214 => rfl); (case hy214 => (go_simp; (try with_reducible rfl))); (try simp only [Act.put, zF, zG, zH]))
                  (refine TD.val0 (v := ?v215) (by simp only [zA, zB, zC]; rfl) rfl ?hw215 (fun w1 => ?hy215) ?hn215; (case hw215 => rfl); (case hy215 => (go_simp; (try with_reducible rfl))); (try simp only [Act.put, zF, zG, zH]))
                  (refine TD.val0 (v := ?v216) (by simp only [zA, zB, zC]; rfl) rfl ?hw216 (fun w1 => ?hy216) ?hn216; (case hw216 => rfl); (case hy216 => (go_simp; (try with_reducible rfl))); (try simp only [Act.put, zF, zG, zH]))
                  (refine TD.load (v := ?v217) (p := ?p217) (Mod.refl _ _) (by simp only [zA, zB, zC]; rfl) rfl ?hw217 rfl ?hx217 (fun wq hSq => ?hy217) ?hn217; (case hw217 => rfl); (case hx217 => (simp only [Act.eval, zD, zA, zB, zC, zE]; (try rfl))); (case hy217 => (have kp1q := hSq.at kp1 (fun h => h); go_simp; (try with_reducible rfl))); (try simp only [Act.put, zF, zG, zH]))
                  (refine TD.val0 (v := ?v218) (by simp only [zA, zB, zC]; rfl) rfl ?hw218 (fun w1 => ?hy218) ?hn218; (case hw218 => rfl); (case hy218 => (go_simp; (try with_reducible rfl))); (try simp only [Act.put, zF, zG, zH]))
                  (refine TD.val0 (v := ?v219) (by simp only [zA, zB, zC]; rfl) rfl ?hw219 (fun w1 => ?hy219) ?hn219; (case hw219 => rfl); (case hy219 => (go_simp; (try with_reducible rfl))); (try simp only [Act.put, zF, zG, zH]))
                  (refine TD.val0 (v := ?v220) (by simp only [zA, zB, zC]; rfl) rfl ?hw220 (fun w1 => ?hy220) ?hn220; (case hw220 => rfl); (case hy220 => (go_simp; (try with_reducible rfl))); (try simp only [Act.put, zF, zG, zH]))
                  (refine TD.val0 (v := ?v221) (by simp only [zA, zB, zC]; rfl) rfl ?hw221 (fun w1 => ?hy221) ?hn221; (case hw221 => rfl); (case hy221 => (go_simp; (try with_reducible rfl))); (try simp only [Act.put, zF, zG, zH]))
                  refine TD.nil (fun we hr => ?_)
                  replace kp1 := hr.mod.at kp1 (fun h => h)
                  have mm := mm.then0 hr.mod
                  clear hr
                  go_wp2_with fail
                  go_ret
                  exact GrR.of false rfl (fun _ => ⟨by omega, by omega⟩) mm
        · have hdl : decide ((i : Int) < (x.lks.l.length : Int)) = false := decide_eq_false (by omega)
          go_upto_region 10 with fail
          by_cases hn : n > 10000
          · have hd := decide_eq_true hn
            go_wp2_with fail
            go_ret
            exact GrR.of true rfl (fun h => by cases h) mm
          · have hd := decide_eq_false hn
            by_cases hx1 : x.ins.l.length > 200
            · have hd1 : decide ((x.ins.l.length : Int) > 200) = true := decide_eq_true (by omega)
              have hd1n : decide (200 < x.ins.l.length) = true := decide_eq_true (by omega)
              have Lkp1 := lt_size kp1
              refine wp_pass0 (C := fun _ _ _ => False) (κ := fun i => [0, 0, 0, 0, 0, 0, 1, 0, 0, 0, 0, 0, 1, 0, 0, 0, 0].getD i 0) [0, 1, 2, 3, 4, 5, 6, 7, 8, 9, 10, 11, 12, 13, 14, 15, 16] (by kernel_rfl) (by kernel_rfl) (fun _ _ d _ _ h => by cases d <;> first | exact h | exact absurd h (hP _ _ _)) ?_
              (refine TD.val0 (v := ?v222) (by simp only [zA, zB, zC]; rfl) rfl ?hw222 (fun w1 => ?hy222) ?hn222; (case hw222 => rfl); (case hy222 => (go_simp; (try with_reducible rfl))); (try simp only [Act.put, zF, zG, zH]))
              (refine TD.val0 (v := ?v223) (by simp only [zA, zB, zC]; rfl) rfl ?hw223 (fun w1 => ?hy223) ?hn223; (case hw223 => rfl); (case hy223 => (go_simp; (try with_reducible rfl))); (try simp only [Act.put, zF, zG, zH]))
              (refine TD.val0 (v := ?v224) (by simp only [zA, zB, zC]; rfl) rfl ?hw224 (fun w1 => ?hy224) ?hn224; (case hw224 => rfl); (case hy224 => (go_simp; (try with_reducible rfl))); (try simp only [Act.put, zF, zG, zH]))
              (refine TD.val0 (v := ?v225) (by simp only [zA, zB, zC]; rfl) rfl ?hw225 (fun w1 => ?hy225) ?hn225; (case hw225 => rfl); (case hy225 => (go_simp; (try with_reducible rfl))); (try simp only [Act.put, zF, zG, zH]))
              (refine TD.val0 (v := ?v226) (by simp only [zA, zB, zC]; rfl) rfl ?hw226 (fun w1 => ?hy226) ?hn226; (case hw226 => rfl); (case hy226 => (go_simp; (try with_reducible rfl))); (try simp only [Act.put, zF, zG, zH]))
              (refine TD.val0 (v := ?v227) (by simp only [zA, zB, zC]; rfl) rfl ?hw227 (fun w1 => ?hy227) ?hn227; (case hw227 => rfl); (case hy227 => (go_simp; (try with_reducible rfl))); (try simp only [Act.put, zF, zG, zH]))
              (refine TD.load (v := ?v228) (p := ?p228) (Mod.refl _ _) (by simp only [zA, zB, zC]; rfl) rfl ?hw228 rfl ?hx228 (fun wq hSq => ?hy228) ?hn228; (case hw228 => rfl); (case hx228 => (simp only [Act.eval, zD, zA, zB, zC, zE]; (try rfl))); (case hy228 => (have kp1q := hSq.at kp1 (fun h => h); go_simp; (try with_reducible rfl))); (try simp only [Act.put, zF, zG, zH]))
              (refine TD.val0 (v := ?v229) (by simp only [zA, zB, zC]; rfl) rfl ?hw229 (fun w1 => ?hy229) ?hn229; (case hw229 => rfl); (case hy229 => (go_simp; (try with_reducible rfl))); (try simp only [Act.put, zF, zG, zH]))
              (refine TD.val0 (v := ?v230) (by simp only [zA, zB, zC]; rfl) rfl ?hw230 (fun w1 => ?hy230) ?hn230; (case hw230 => rfl); (case hy230 => (go_simp; (try with_reducible rfl))); (try simp only [Act.put, zF, zG, zH]))
              (refine TD.val0 (v := ?v231) (by simp only [zA, zB, zC]; rfl) rfl ?hw231 (fun w1 => ?hy231) ?hn231; (case hw231 => rfl); (case hy231 => (go_simp; (try with_reducible rfl))); (try simp only [Act.put, zF, zG, zH]))
              (refine TD.val0 (v := ?v232) (by simp only [zA, zB, zC]; rfl) rfl ?hw232 (fun w1 => ?hy232) ?hn232; (case hw232 => rfl); (case hy232 => (go_simp; (try with_reducible rfl))); (try simp only [Act.put, zF, zG, zH]))
              (refine TD.pass (by simp only [zA, zB, zC]; rfl) rfl ?hw233 ?hn233; (case hw233 => rfl); (try simp only [Act.put, zF, zG, zH]))
              (refine TD.pass1 (by simp only [zA, zB, zC]; rfl) rfl ?hw234 ?hn234; (case hw234 => rfl); (try simp only [Act.put, zF, zG, zH]))
              (refine TD.pass (by simp only [zA, zB, zC]; rfl) rfl ?hw235 ?hn235; (case hw235 => rfl); (try simp only [Act.put, zF, zG, zH]))
              (refine TD.pass (by simp only [zA, zB, zC]; rfl) rfl ?hw236 ?hn236; (case hw236 => rfl); (try simp only [Act.put, zF, zG, zH]))
              (refine TD.val0 (v := ?v237) (by simp only [zA, zB, zC]; rfl) rfl ?hw237 (fun w1 => ?hy237) ?hn237; (case hw237 => rfl); (case hy237 => (go_simp; (try with_reducible rfl))); (try simp only [Act.put, zF, zG, zH]))
              (refine TD.val0 (v := ?v238) (by simp only [zA, zB, zC]; rfl) rfl ?hw238 (fun w1 => ?hy238) ?hn238; (case hw238 => rfl); (case hy238 => (go_simp; (try with_reducible rfl))); (try simp only [Act.put, zF, zG, zH]))
              refine TD.nil (fun we hr => ?_)
              replace kp1 := hr.mod.at kp1 (fun h => h)
              have mm := mm.then0 hr.mod
              clear hr
              go_wp2_with fail
              go_ret
              exact GrR.of true rfl (fun h => by cases h) mm
            · have hd1 : decide ((x.ins.l.length : Int) > 200) = false := decide_eq_false (by omega)
              have hd1n : decide (200 < x.ins.l.length) = false := decide_eq_false (by omega)
              by_cases hx2 : x.ro.l.length > 300
              · have hd2 : decide ((x.ro.l.length : Int) > 300) = true := decide_eq_true (by omega)
                have hd2n : decide (300 < x.ro.l.length) = true := decide_eq_true (by omega)
                have Lkp1 := lt_size kp1
                refine wp_pass0 (C := fun _ _ _ => False) (κ := fun i => [0, 0, 0, 0, 0, 0, 1, 0, 0, 0, 0, 0, 1, 0, 0, 0, 0].getD i 0) [0, 1, 2, 3, 4, 5, 6, 7, 8, 9, 10, 11, 12, 13, 14, 15, 16] (by kernel_rfl) (by kernel_rfl) (fun _ _ d _ _ h => by cases d <;> first | exact h | exact absurd h (hP _ _ _)) ?_
                (refine TD.val0 (v := ?v239) (by simp only [zA, zB, zC]; rfl) rfl ?hw239 (fun w1 => ?hy239) ?hn239; (case hw239 => rfl); (case hy239 => (go_simp; (try with_reducible rfl))); (try simp only [Act.put, zF, zG, zH]))
                (refine TD.val0 (v := ?v240) (by simp only [zA, zB, zC]; rfl) rfl ?hw240 (fun w1 => ?hy240) ?hn240; (case hw240 => rfl); (case hy240 => (go_simp; (try with_reducible rfl))); (try simp only [Act.put, zF, zG, zH]))
                (refine TD.val0 (v := ?v241) (by simp only [zA, zB, zC]; rfl) rfl ?hw241 (fun w1 => ?hy241) ?hn241; (case hw241 => rfl); (case hy241 => (go_simp; (try with_reducible rfl))); (try simp only [Act.put, zF, zG, zH]))
                (refine TD.val0 (v := ?v242) (by simp only [zA, zB, zC]; rfl) rfl ?hw242 (fun w1 => ?hy242) ?hn242; (case hw242 => rfl); (case hy242 => (go_simp; (try with_reducible rfl))); (try simp only [Act.put, zF, zG, zH]))
                (refine TD.val0 (v := ?v243) (by simp only [zA, zB, zC]; rfl) rfl ?hw243 (fun w1 => ?hy243) ?hn243; (case hw243 => rfl); (case hy243 => (go_simp; (try with_reducible rfl))); (try simp only [Act.put, zF, zG, zH]))
                (refine TD.val0 (v := ?v244) (by simp only [zA, zB, zC]; rfl) rfl ?hw244 (fun w1 => ?hy244) ?hn244; (case hw244 => rfl); (case hy244 => (go_simp; (try with_reducible rfl))); (try simp only [Act.put, zF, zG, zH]))
                (refine TD.load (v := ?v245) (p := ?p245) (Mod.refl _ _) (by simp only [zA, zB, zC]; rfl) rfl ?hw245 rfl ?hx245 (fun wq hSq => ?hy245) ?hn245; (case hw245 => rfl); (case hx245 => (simp only [Act.eval, zD, zA, zB, zC, zE]; (try rfl))); (case hy245 => (have kp1q := hSq.at kp1 (fun h => h); go_simp; (try with_reducible rfl))); (try simp only [Act.put, zF, zG, zH]))
                (refine TD.val0 (v := ?v246) (by simp only [zA, zB, zC]; rfl) rfl ?hw246 (fun w1 => ?hy246) ?hn246; (case hw246 => rfl); (case hy246 => (go_simp; (try with_reducible rfl))); (try simp only [Act.put, zF, zG, zH]))
                (refine TD.val0 (v := ?v247) (by simp only [zA, zB, zC]; rfl) rfl ?hw247 (fun w1 => ?hy247) ?hn247; (case hw247 => rfl); (case hy247 => (go_simp; (try with_reducible rfl))); (try simp only [Act.put, zF, zG, zH]))
                (refine TD.val0 (v := ?v248) (by simp only [zA, zB, zC]; rfl) rfl ?hw248 (fun w1 => ?hy248) ?hn248; (case hw248 => rfl); (case hy248 => (go_simp; (try with_reducible rfl))); (try simp only [Act.put, zF, zG, zH]))
                (refine TD.val0 (v := ?v249) (by simp only [zA, zB, zC]; rfl) rfl ?hw249 (fun w1 => ?hy249) ?hn249; (case hw249 => rfl); (case hy249 => (go_simp; (try with_reducible rfl))); (try simp only [Act.put, zF, zG, zH]))
                (refine TD.val0 (v := ?v250) (by simp only [zA, zB, zC]; rfl) rfl ?hw250 (fun w1 => ?hy250) ?hn250; (case hw250 => rfl); (case hy250 => (go_simp; (try with_reducible rfl))); (try simp only [Act.put, zF, zG, zH]))
                (refine TD.load (v := ?v251) (p := ?p251) (Mod.refl _ _) (by simp only [zA, zB, zC]; rfl) rfl ?hw251 rfl ?hx251 (fun wq hSq => ?hy251) ?hn251; (case hw251 => rfl); (case hx251 => (simp only [Act.eval, zD, zA, zB, zC, zE]; (try rfl))); (case hy251 => (have kp1q := hSq.at kp1 (fun h => h); go_simp; (try with_reducible rfl))); (try simp only [Act.put, zF, zG, zH]))
                (refine TD.val0 (v := ?v252) (by simp only [zA, zB, zC]; rfl) rfl ?hw252 (fun w1 => ?hy252) ?hn252; (case hw252 => rfl); (case hy252 => (go_simp; (try with_reducible rfl))); (try simp only [Act.put, zF, zG, zH]))
                (refine TD.val0 (v := ?v253) (by simp only [zA, zB, zC]; rfl) rfl ?hw253 (fun w1 => ?hy253) ?hn253; (case hw253 => rfl); (case hy253 => (go_simp; (try with_reducible rfl))); (try simp only [Act.put, zF, zG, zH]))
                (refine TD.val0 (v := ?v254) (by simp only [zA, zB, zC]; rfl) rfl ?hw254 (fun w1 => ?hy254) ?hn254; (case hw254 => rfl); (case hy254 => (go_simp; (try with_reducible rfl))); (try simp only [Act.put, zF, zG, zH]))
                (refine TD.val0 (v := ?v255) (by simp only [zA, zB, zC]; rfl) rfl ?hw255 (fun w1 => ?hy255) ?hn255; (case hw255 => rfl); (case hy255 => (go_simp; (try with_reducible rfl))); (try simp only [Act.put, zF, zG, zH]))
                refine TD.nil (fun we hr => ?_)
                replace kp1 := hr.mod.at kp1 (fun h => h)
                have mm := mm.then0 hr.mod
                clear hr
                go_wp2_with fail
                go_ret
                exact GrR.of true rfl (fun h => by cases h) mm
              · have hd2 : decide ((x.ro.l.length : Int) > 300) = false := decide_eq_false (by omega)
                have hd2n : decide (300 < x.ro.l.length) = false := decide_eq_false (by omega)
                have Lkp1 := lt_size kp1
                refine wp_pass0 (C := fun _ _ _ => False) (κ := fun i => [0, 0, 0, 0, 0, 0, 1, 0, 0, 0, 0, 0, 1, 0, 0, 0, 0].getD i 0) [0, 1, 2, 3, 4, 5, 6, 7, 8, 9, 10, 11, 12, 13, 14, 15, 16] (by kernel_rfl) (by kernel_rfl) (fun _ _ d _ _ h => by cases d <;> first | exact h | exact absurd h (hP _ _ _)) ?_
                (refine TD.val0 (v := ?v256) (by simp only [zA, zB, zC]; rfl) rfl ?hw256 (fun w1 => ?hy256) ?hn256; (case hw256 => rfl); (case hy256 => (go_simp; (try with_reducible rfl))); (try simp only [Act.put, zF, zG, zH]))
                (refine TD.val0 (v := ?v257) (by simp only [zA, zB, zC]; rfl) rfl ?hw257 (fun w1 => ?hy257) ?hn257; (case hw257 => rfl); (case hy257 => (go_simp; (try with_reducible rfl))); (try simp only [Act.put, zF, zG, zH]))
                (refine TD.val0 (v := ?v258) (by simp only [zA, zB, zC]; rfl) rfl ?hw258 (fun w1 => ?hy258) ?hn258; (case hw258 => rfl); (case hy258 => (go_simp; (try with_reducible rfl))); (try simp only [Act.put, zF, zG, zH]))
                (refine TD.val0 (v := ?v259) (by simp only [zA, zB, zC]; rfl) rfl ?hw259 (fun w1 => ?hy259) ?hn259; (case hw259 => rfl); (case hy259 => (go_simp; (try with_reducible rfl))); (try simp only [Act.put, zF, zG, zH]))
                (refine TD.val0 (v := ?v260) (by simp only [zA, zB, zC]; rfl) rfl ?hw260 (fun w1 => ?hy260) ?hn260; (case hw260 => rfl); (case hy260 => (go_simp; (try with_reducible rfl))); (try simp only [Act.put, zF, zG, zH]))
                (refine TD.val0 (v := ?v261) (by simp only [zA, zB, zC]; rfl) rfl ?hw261 (fun w1 => ?hy261) ?hn261; (case hw261 => rfl); (case hy261 => (go_simp; (try with_reducible rfl))); (try simp only [Act.put, zF, zG, zH]))
                (refine TD.load (v := ?v262) (p := ?p262) (Mod.refl _ _) (by simp only [zA, zB, zC]; rfl) rfl ?hw262 rfl ?hx262 (fun wq hSq => ?hy262) ?hn262; (case hw262 => rfl); (case hx262 => (simp only [Act.eval, zD, zA, zB, zC, zE]; (try rfl))); (case hy262 => (have kp1q := hSq.at kp1 (fun h => h); go_simp; (try with_reducible rfl))); (try simp only [Act.put, zF, zG, zH]))
                (refine TD.val0 (v := ?v263) (by simp only [zA, zB, zC]; rfl) rfl ?hw263 (fun w1 => ?hy263) ?hn263; (case hw263 => rfl); (case hy263 => (go_simp; (try with_reducible rfl))); (try simp only [Act.put, zF, zG, zH]))
                (refine TD.val0 (v := ?v264) (by simp only [zA, zB, zC]; rfl) rfl ?hw264 (fun w1 => ?hy264) ?hn264; (case hw264 => rfl); (case hy264 => (go_simp; (try with_reducible rfl))); (try simp only [Act.put, zF, zG, zH]))
                (refine TD.val0 (v := ?v265) (by simp only [zA, zB, zC]; rfl) rfl ?hw265 (fun w1 => ?hy265) ?hn265; (case hw265 => rfl); (case hy265 => (go_simp; (try with_reducible rfl))); (try simp only [Act.put, zF, zG, zH]))
                (refine TD.val0 (v := ?v266) (by simp only [zA, zB, zC]; rfl) rfl ?hw266 (fun w1 => ?hy266) ?hn266; (case hw266 => rfl); (case hy266 => (go_simp; (try with_reducible rfl))); (try simp only [Act.put, zF, zG, zH]))
                (refine TD.val0 (v := ?v267) (by simp only [zA, zB, zC]; rfl) rfl ?hw267 (fun w1 => ?hy267) ?hn267; (case hw267 => rfl); (case hy267 => (go_simp; (try with_reducible rfl))); (try simp only [Act.put, zF, zG, zH]))
                (refine TD.load (v := ?v268) (p := ?p268) (Mod.refl _ _) (by simp only [zA, zB, zC]; rfl) rfl ?hw268 rfl ?hx268 (fun wq hSq => ?hy268) ?hn268; (case hw268 => rfl); (case hx268 => (simp only [Act.eval, zD, zA, zB, zC, zE]; (try rfl))); (case hy268 => (have kp1q := hSq.at kp1 (fun h => h); go_simp; (try with_reducible rfl))); (try simp only [Act.put, zF, zG, zH]))
                (refine TD.val0 (v := ?v269) (by simp only [zA, zB, zC]; rfl) rfl ?hw269 (fun w1 => ?hy269) ?hn269; (case hw269 => rfl); (case hy269 => (go_simp; (try with_reducible rfl))); (try simp only [Act.put, zF, zG, zH]))
                (refine TD.val0 (v := ?v270) (by simp only [zA, zB, zC]; rfl) rfl ?hw270 (fun w1 => ?hy270) ?hn270; (case hw270 => rfl); (case hy270 => (go_simp; (try with_reducible rfl))); (try simp only [Act.put, zF, zG, zH]))
                (refine TD.val0 (v := ?v271) (by simp only [zA, zB, zC]; rfl) rfl ?hw271 (fun w1 => ?hy271) ?hn271; (case hw271 => rfl); (case hy271 => (go_simp; (try with_reducible rfl))); (try simp only [Act.put, zF, zG, zH]))
                (refine TD.val0 (v := ?v272) (by simp only [zA, zB, zC]; rfl) rfl ?hw272 (fun w1 => ?hy272) ?hn272; (case hw272 => rfl); (case hy272 => (go_simp; (try with_reducible rfl))); (try simp only [Act.put, zF, zG, zH]))
                refine TD.nil (fun we hr => ?_)
                replace kp1 := hr.mod.at kp1 (fun h => h)
                have mm := mm.then0 hr.mod
                clear hr
                go_wp2_with fail
                go_ret
                exact GrR.of false rfl (fun _ => ⟨by omega, by omega⟩) mm
end Go.Proofs.Ytofpnmoeimjnnaa
namespace Go.Proofs.Ytofpnmoeimjnnaa
open Go.RowKit
open Go.ChangeMaps (setBlock)
set_option linter.unusedSimpArgs false
set_option linter.unusedVariables false
attribute [local go_sem ↓] wlKey ldKey stKey wlAcct ldAcct stAcct wlHold ldHold stHold wlHash ldHash stHash wlSig ldSig stSig wlLim ldLim stLim wlRdy ldRdy stRdy wlOut ldOut stOut wlTd ldTd stTd wlTx ldTx stTx eqKey1
attribute [local go_sem] eqMap neMap av_size av_all av_one hd_size hd_key hd_acct hd_all hd_one zKey_size zAcct_size zHold_size zHash_size zSg_size zLim_size zRdy_size zOut_size zTried_size zTx_size cell_blk frozen_blk kc_ext one_int one_bool one_ptr one_slice one_map kc_one kc_one0 kc_size sgc_size sgc_ext sgc_one0 sgc_one' rdr_size rdr_all rdr_one rdr_tx rdr_rec rdr0 rdr1 rdr6 rdr39 rdr40 rdr41 rdr0' rdr1' rdr6' rdr39' rdr40' rdr41' ocr_size ocr_all ocr_one ocr2 ocr3 ocr4 ocr5 ocr2' ocr3' ocr4' ocr5' tdr_size tdr_all tdr_one tdr_r tdr_o tdr_tx tdr_rec tdr0 tdr1 tdr41 tdr50 tdr51 tdr52 tdr53 tdr0' tdr1' tdr41' tdr50' tdr51' tdr52' tdr53' txr_size txr_all txr_one txr0 txr38 txr39 txr0' txr38' txr39' Value.cells
attribute [local go_sem ↓] eqHash eqSig eqAcct eqHold wlGnd ldGnd stGnd
attribute [local go_sem] zHash_ext zHash_one0 eqMapS neMapS grc_size grc_all grc_lim grc_one grc0 grc1 grc2 grc3 grc4 grc5 grc0' grc1' grc2' grc3' grc4' grc5'
theorem td_parts {w : World} {a : Option Addr} {l : List TdR} (h : SlAt tdr 54 w a l) {i : Nat} {x : TdR} (hx : l[i]? = some x) : ∃ g o C U fr, a = some ⟨g, o, none⟩ ∧ w.heap[g]? = some (.cells C U fr) ∧ C.extract (o + i * 54) (o + i * 54 + 48) = rdr x.r ∧ o + i * 54 + 54 ≤ C.size ∧
    C[o + i * 54]? = some (.slice x.r.b.a x.r.b.l.length x.r.b.c) ∧ C[o + i * 54 + 41]? = some (.slice x.r.ro.a x.r.ro.l.length x.r.ro.c) ∧ C[o + i * 54 + 53]? = some (.slice x.o.ch.a x.o.ch.l.length x.o.ch.c) ∧ C[o + i * 54 + 52]? = some (u64v x.o.sp) := by
  obtain ⟨g, o, C, U, fr, ha, hk, he, hle⟩ := td_at h hx
  refine ⟨g, o, C, U, fr, ha, hk, ?_, hle, ?_, cellC he (j := 41) (tdr41 x), cellC he (j := 53) (tdr53 x), cellC he (j := 52) (tdr52 x)⟩
  · rw [← tdr_r, ← he, Array.extract_extract]
    congr 1 <;> omega
  · have := cellC he (j := 0) (tdr0 x)
    simpa using this
def TdSm (x : TdR) : Prop := x.r.ins.l.length ≤ 200 ∧ x.r.ro.l.length ≤ 300 ∧ x.o.ch.l.length ≤ 200
def wtT (x : TdR) : Nat := 1 + x.r.ro.l.length + x.r.b.l.length / 50
def TdLk (w : World) (x : TdR) : Prop := SlAt inr 3 w x.r.ins.a x.r.ins.l ∧ SlAt lor 34 w x.r.lks.a x.r.lks.l ∧ x.r.ins.l.length ≤ 140737488355328 ∧ x.r.lks.l.length ≤ 140737488355328 ∧ x.r.b.l.length ≤ 140737488355328
theorem TdLk.mod0 {w w' : World} {x : TdR} (h : TdLk w x) (hm : Mod (fun _ => False) w w') : TdLk w' x := ⟨h.1.mod0 hm, h.2.1.mod0 hm, h.2.2⟩
theorem sum_leC {α : Type} (f : α → Nat) (C : Nat) : ∀ l : List α, (∀ x ∈ l, f x ≤ C) → (l.map f).sum ≤ l.length * C
  | [], _ => by simp
  | x :: r, h => by
    have h1 := h x (by simp)
    have h2 := sum_leC f C r (fun y hy => h y (by simp [hy]))
    simp only [List.map_cons, List.sum_cons, List.length_cons, Nat.add_mul]
    omega
theorem wt_step {l : List TdR} {j : Nat} {x : TdR} {n : Int} (hx : l.take (j + 1) = l.take j ++ [x]) (hl : l.length ≤ 100000) (hn : n = (((l.take j).map wtT).sum : Nat)) (hs : ∀ y ∈ l.take j, TdSm y) (hx2 : TdSm x) (hb : ∀ y ∈ l, y.r.b.l.length ≤ 140737488355328) :
    IntKind.i64.wrap (IntKind.i64.wrap (IntKind.i64.wrap (n + 1) + (x.r.ro.l.length : Int)) + IntKind.i64.wrap ((x.r.b.l.length : Int) / 50)) = (((l.take (j + 1)).map wtT).sum : Nat) := by
  have hall : ∀ y ∈ l.take (j + 1), wtT y ≤ 3000000000000 := fun y hy => by
    have h1 : y.r.ro.l.length ≤ 300 := by
      rw [hx] at hy
      rcases List.mem_append.1 hy with h | h
      · exact (hs y h).2.1
      · rw [List.mem_singleton.1 h]
        exact hx2.2.1
    have h2 := hb y (List.mem_of_mem_take hy)
    unfold wtT
    omega
  have hsum := sum_leC wtT 3000000000000 _ hall
  have hlen : (l.take (j + 1)).length ≤ 100000 := by rw [List.length_take]; omega
  have hs2 : ((l.take (j + 1)).map wtT).sum ≤ 300000000000000000 := by omega
  rw [hx, List.map_append, List.sum_append] at hs2 ⊢
  simp only [List.map_cons, List.map_nil, List.sum_cons, List.sum_nil, wtT] at hs2 ⊢
  generalize (List.map wtT (l.take j)).sum = S at *
  subst hn
  rw [IntWalk.i64_in ((x.r.b.l.length : Int) / 50) (by omega), IntWalk.i64_in ((S : Int) + 1) (by omega), IntWalk.i64_in ((S : Int) + 1 + (x.r.ro.l.length : Int)) (by omega), IntWalk.i64_in _ (by omega)]
  omega
set_option maxRecDepth 20000 in
set_option maxHeartbeats 6400000 in
theorem great_c (g : GrR') (a : Option Addr) (l : List TdR) (c pA : Nat) (w : World) (kA : w.heap[pA]? = some (.cells #[.int .u8 0, .slice a l.length c] 33 (0, 0))) (hl : SlAt tdr 54 w a l) (hk : ∀ x ∈ l, TdLk w x) (hn : l.length ≤ 140737488355328) :
    Calls Try.prog 5 #[.agg (grc g), .slice (some ⟨pA, 0, none⟩) 1 1] w (GrR ((g.L.l.length ≤ 200 ∧ g.H.l.length ≤ 160 ∧ g.M.l.length ≤ 100) ∧ (l.length ≤ 100000 → (∀ x ∈ l, TdSm x) ∧ (l.map wtT).sum ≤ 600)) w) := by
  have HL := Lib.hid (And.intro hl (And.intro hk hn))
  clear hl hk hn
  obtain ⟨ll, hll⟩ : ∃ ll, l.length = ll := ⟨_, rfl⟩
  have HLL := Lib.hid hll
  rw [hll] at kA
  clear hll
  go_enter Try.func5, Try.ntmps5
  go_upto_region 0 with fail
  have LkA := lt_size kA
  refine wp_pass0 (C := fun _ _ _ => False) (κ := fun i => [3, 0].getD i 0) [0, 1] (by kernel_rfl) (by kernel_rfl) (fun _ _ d _ _ h => by cases d <;> first | exact h | exact absurd h (hP _ _ _)) ?_
  (refine TD.box (v := ?v1) (by simp only [zA, zB, zC]; rfl) rfl ?hw1 rfl rfl ?hx1 (fun p2 hp2 => ?hn1); (case hw1 => rfl); (case hx1 => (simp only [Act.eval, zD, zA, zB, zC, zE]; (try rfl))); (try simp only [Act.put, zF, zG, zH]))
  (refine TD.val0 (v := ?v2) (by simp only [zA, zB, zC]; rfl) rfl ?hw2 (fun w1 => ?hy2) ?hn2; (case hw2 => rfl); (case hy2 => (go_simp; (try with_reducible rfl))); (try simp only [Act.put, zF, zG, zH]))
  refine TD.nil (fun w1 hr => ?_)
  replace kA := hr.mod.at kA (fun h => h)
  have kp2 := hr.box p2 _ (by first | exact Bx.set_same _ _ _ | (simp only [Bx.set_same]; rfl)); dsimp only [Value.cells] at kp2; obtain ⟨gp2, kp2⟩ := kp2
  have m1 := hr.mod
  clear hr
  go_upto_region 1 with fail
  by_cases n1 : g.L.l.length > 200
  · have hd1 : decide ((g.L.l.length : Int) > 200) = true := decide_eq_true (by omega)
    have Lkp2 := lt_size kp2
    refine wp_pass0 (C := fun _ _ _ => False) (κ := fun i => [0, 1, 0, 0, 0, 0, 1, 0, 0, 0, 0, 0, 1, 0, 0, 0, 0, 0, 0, 0, 0].getD i 0) [0, 1, 2, 3, 4, 5, 6, 7, 8, 9, 10, 11, 12, 13, 14, 15, 16, 17, 18, 19, 20] (by kernel_rfl) (by kernel_rfl) (fun _ _ d _ _ h => by cases d <;> first | exact h | exact absurd h (hP _ _ _)) ?_
    (refine TD.val0 (v := ?v3) (by simp only [zA, zB, zC]; rfl) rfl ?hw3 (fun w1 => ?hy3) ?hn3; (case hw3 => rfl); (case hy3 => (go_simp; (try with_reducible rfl))); (try simp only [Act.put, zF, zG, zH]))
    (refine TD.load (v := ?v4) (p := ?p4) (Mod.refl _ _) (by simp only [zA, zB, zC]; rfl) rfl ?hw4 rfl ?hx4 (fun wq hSq => ?hy4) ?hn4; (case hw4 => rfl); (case hx4 => (simp only [Act.eval, zD, zA, zB, zC, zE]; (try rfl))); (case hy4 => (have kp2q := hSq.at kp2 (fun h => h); go_simp; (try with_reducible rfl))); (try simp only [Act.put, zF, zG, zH]))
    (refine TD.val0 (v := ?v5) (by simp only [zA, zB, zC]; rfl) rfl ?hw5 (fun w1 => ?hy5) ?hn5; (case hw5 => rfl); (case hy5 => (go_simp; (try with_reducible rfl))); (try simp only [Act.put, zF, zG, zH]))
    (refine TD.val0 (v := ?v6) (by simp only [zA, zB, zC]; rfl) rfl ?hw6 (fun w1 => ?hy6) ?hn6; (case hw6 => rfl); (case hy6 => (go_simp; (try with_reducible rfl))); (try simp only [Act.put, zF, zG, zH]))
    (refine TD.val0 (v := ?v7) (by simp only [zA, zB, zC]; rfl) rfl ?hw7 (fun w1 => ?hy7) ?hn7; (case hw7 => rfl); (case hy7 => (go_simp; (try with_reducible rfl))); (try simp only [Act.put, zF, zG, zH]))
    (refine TD.pass (by simp only [zA, zB, zC]; rfl) rfl ?hw8 ?hn8; (case hw8 => rfl); (try simp only [Act.put, zF, zG, zH]))
    (refine TD.pass1 (by simp only [zA, zB, zC]; rfl) rfl ?hw9 ?hn9; (case hw9 => rfl); (try simp only [Act.put, zF, zG, zH]))
    (refine TD.pass (by simp only [zA, zB, zC]; rfl) rfl ?hw10 ?hn10; (case hw10 => rfl); (try simp only [Act.put, zF, zG, zH]))
    (refine TD.pass (by simp only [zA, zB, zC]; rfl) rfl ?hw11 ?hn11; (case hw11 => rfl); (try simp only [Act.put, zF, zG, zH]))
    (refine TD.val0 (v := ?v12) (by simp only [zA, zB, zC]; rfl) rfl ?hw12 (fun w1 => ?hy12) ?hn12; (case hw12 => rfl); (case hy12 => (go_simp; (try with_reducible rfl))); (try simp only [Act.put, zF, zG, zH]))
    (refine TD.val0 (v := ?v13) (by simp only [zA, zB, zC]; rfl) rfl ?hw13 (fun w1 => ?hy13) ?hn13; (case hw13 => rfl); (case hy13 => (go_simp; (try with_reducible rfl))); (try simp only [Act.put, zF, zG, zH]))
    (refine TD.pass (by simp only [zA, zB, zC]; rfl) rfl ?hw14 ?hn14; (case hw14 => rfl); (try simp only [Act.put, zF, zG, zH]))
    (refine TD.pass1 (by simp only [zA, zB, zC]; rfl) rfl ?hw15 ?hn15; (case hw15 => rfl); (try simp only [Act.put, zF, zG, zH]))
    (refine TD.pass (by simp only [zA, zB, zC]; rfl) rfl ?hw16 ?hn16; (case hw16 => rfl); (try simp only [Act.put, zF, zG, zH]))
    (refine TD.pass (by simp only [zA, zB, zC]; rfl) rfl ?hw17 ?hn17; (case hw17 => rfl); (try simp only [Act.put, zF, zG, zH]))
    (refine TD.val0 (v := ?v18) (by simp only [zA, zB, zC]; rfl) rfl ?hw18 (fun w1 => ?hy18) ?hn18; (case hw18 => rfl); (case hy18 => (go_simp; (try with_reducible rfl))); (try simp only [Act.put, zF, zG, zH]))
    (refine TD.val0 (v := ?v19) (by simp only [zA, zB, zC]; rfl) rfl ?hw19 (fun w1 => ?hy19) ?hn19; (case hw19 => rfl); (case hy19 => (go_simp; (try with_reducible rfl))); (try simp only [Act.put, zF, zG, zH]))
    (refine TD.pass (by simp only [zA, zB, zC]; rfl) rfl ?hw20 ?hn20; (case hw20 => rfl); (try simp only [Act.put, zF, zG, zH]))
    (refine TD.pass (by simp only [zA, zB, zC]; rfl) rfl ?hw21 ?hn21; (case hw21 => rfl); (try simp only [Act.put, zF, zG, zH]))
    (refine TD.pass (by simp only [zA, zB, zC]; rfl) rfl ?hw22 ?hn22; (case hw22 => rfl); (try simp only [Act.put, zF, zG, zH]))
    (refine TD.val0 (v := ?v23) (by simp only [zA, zB, zC]; rfl) rfl ?hw23 (fun w1 => ?hy23) ?hn23; (case hw23 => rfl); (case hy23 => (go_simp; (try with_reducible rfl))); (try simp only [Act.put, zF, zG, zH]))
    refine TD.nil (fun w2 hr => ?_)
    replace kp2 := hr.mod.at kp2 (fun h => h)
    have m2 := m1.then0 hr.mod
    clear hr
    go_wp2_with fail
    go_ret
    exact GrR.of true rfl (fun h => by cases h) m2
  have hd1 : decide ((g.L.l.length : Int) > 200) = false := decide_eq_false (by omega)
  by_cases n2 : g.H.l.length > 160
  · have hd2 : decide ((g.H.l.length : Int) > 160) = true := decide_eq_true (by omega)
    have Lkp2 := lt_size kp2
    refine wp_pass0 (C := fun _ _ _ => False) (κ := fun i => [0, 1, 0, 0, 0, 0, 1, 0, 0, 0, 0, 0, 1, 0, 0, 0, 0, 0, 0, 0, 0].getD i 0) [0, 1, 2, 3, 4, 5, 6, 7, 8, 9, 10, 11, 12, 13, 14, 15, 16, 17, 18, 19, 20] (by kernel_rfl) (by kernel_rfl) (fun _ _ d _ _ h => by cases d <;> first | exact h | exact absurd h (hP _ _ _)) ?_
    (refine TD.val0 (v := ?v24) (by simp only [zA, zB, zC]; rfl) rfl ?hw24 (fun w1 => ?hy24) ?hn24; (case hw24 => rfl); (case hy24 => (go_simp; (try with_reducible rfl))); (try simp only [Act.put, zF, zG, zH]))
    (refine TD.load (v := ?v25) (p := ?p25) (Mod.refl _ _) (by simp only [zA, zB, zC]; rfl) rfl ?hw25 rfl ?hx25 (fun wq hSq => ?hy25) ?hn25; (case hw25 => rfl); (case hx25 => (simp only [Act.eval, zD, zA, zB, zC, zE]; (try rfl))); (case hy25 => (have kp2q := hSq.at kp2 (fun h => h); go_simp; (try with_reducible rfl))); (try simp only [Act.put, zF, zG, zH]))
    (refine TD.val0 (v := ?v26) (by simp only [zA, zB, zC]; rfl) rfl ?hw26 (fun w1 => ?hy26) ?hn26; (case hw26 => rfl); (case hy26 => (go_simp; (try with_reducible rfl))); (try simp only [Act.put, zF, zG, zH]))
    (refine TD.val0 (v := ?v27) (by simp only [zA, zB, zC]; rfl) rfl ?hw27 (fun w1 => ?hy27) ?hn27; (case hw27 => rfl); (case hy27 => (go_simp; (try with_reducible rfl))); (try simp only [Act.put, zF, zG, zH]))
    (refine TD.val0 (v := ?v28) (by simp only [zA, zB, zC]; rfl) rfl ?hw28 (fun w1 => ?hy28) ?hn28; (case hw28 => rfl); (case hy28 => (go_simp; (try with_reducible rfl))); (try simp only [Act.put, zF, zG, zH]))
    (refine TD.val0 (v := ?v29) (by simp only [zA, zB, zC]; rfl) rfl ?hw29 (fun w1 => ?hy29) ?hn29; (case hw29 => rfl); (case hy29 => (go_simp; (try with_reducible rfl))); (try simp only [Act.put, zF, zG, zH]))
    (refine TD.load (v := ?v30) (p := ?p30) (Mod.refl _ _) (by simp only [zA, zB, zC]; rfl) rfl ?hw30 rfl ?hx30 (fun wq hSq => ?hy30) ?hn30; (case hw30 => rfl); (case hx30 => (simp only [Act.eval, zD, zA, zB, zC, zE]; (try rfl))); (case hy30 => (have kp2q := hSq.at kp2 (fun h => h); go_simp; (try with_reducible rfl))); (try simp only [Act.put, zF, zG, zH]))
    (refine TD.val0 (v := ?v31) (by simp only [zA, zB, zC]; rfl) rfl ?hw31 (fun w1 => ?hy31) ?hn31; (case hw31 => rfl); (case hy31 => (go_simp; (try with_reducible rfl))); (try simp only [Act.put, zF, zG, zH]))
    (refine TD.val0 (v := ?v32) (by simp only [zA, zB, zC]; rfl) rfl ?hw32 (fun w1 => ?hy32) ?hn32; (case hw32 => rfl); (case hy32 => (go_simp; (try with_reducible rfl))); (try simp only [Act.put, zF, zG, zH]))
    (refine TD.val0 (v := ?v33) (by simp only [zA, zB, zC]; rfl) rfl ?hw33 (fun w1 => ?hy33) ?hn33; (case hw33 => rfl); (case hy33 => (go_simp; (try with_reducible rfl))); (try simp only [Act.put, zF, zG, zH]))
    (refine TD.val0 (v := ?v34) (by simp only [zA, zB, zC]; rfl) rfl ?hw34 (fun w1 => ?hy34) ?hn34; (case hw34 => rfl); (case hy34 => (go_simp; (try with_reducible rfl))); (try simp only [Act.put, zF, zG, zH]))
    (refine TD.pass (by simp only [zA, zB, zC]; rfl) rfl ?hw35 ?hn35; (case hw35 => rfl); (try simp only [Act.put, zF, zG, zH]))
    (refine TD.pass1 (by simp only [zA, zB, zC]; rfl) rfl ?hw36 ?hn36; (case hw36 => rfl); (try simp only [Act.put, zF, zG, zH]))
    (refine TD.pass (by simp only [zA, zB, zC]; rfl) rfl ?hw37 ?hn37; (case hw37 => rfl); (try simp only [Act.put, zF, zG, zH]))
    (refine TD.pass (by simp only [zA, zB, zC]; rfl) rfl ?hw38 ?hn38; (case hw38 => rfl); (try simp only [Act.put, zF, zG, zH]))
    (refine TD.val0 (v := ?v39) (by simp only [zA, zB, zC]; rfl) rfl ?hw39 (fun w1 => ?hy39) ?hn39; (case hw39 => rfl); (case hy39 => (go_simp; (try with_reducible rfl))); (try simp only [Act.put, zF, zG, zH]))
    (refine TD.val0 (v := ?v40) (by simp only [zA, zB, zC]; rfl) rfl ?hw40 (fun w1 => ?hy40) ?hn40; (case hw40 => rfl); (case hy40 => (go_simp; (try with_reducible rfl))); (try simp only [Act.put, zF, zG, zH]))
    (refine TD.pass (by simp only [zA, zB, zC]; rfl) rfl ?hw41 ?hn41; (case hw41 => rfl); (try simp only [Act.put, zF, zG, zH]))
    (refine TD.pass (by simp only [zA, zB, zC]; rfl) rfl ?hw42 ?hn42; (case hw42 => rfl); (try simp only [Act.put, zF, zG, zH]))
    (refine TD.pass (by simp only [zA, zB, zC]; rfl) rfl ?hw43 ?hn43; (case hw43 => rfl); (try simp only [Act.put, zF, zG, zH]))
    (refine TD.val0 (v := ?v44) (by simp only [zA, zB, zC]; rfl) rfl ?hw44 (fun w1 => ?hy44) ?hn44; (case hw44 => rfl); (case hy44 => (go_simp; (try with_reducible rfl))); (try simp only [Act.put, zF, zG, zH]))
    refine TD.nil (fun w2 hr => ?_)
    replace kp2 := hr.mod.at kp2 (fun h => h)
    have m2 := m1.then0 hr.mod
    clear hr
    go_wp2_with fail
    go_ret
    exact GrR.of true rfl (fun h => by cases h) m2
  have hd2 : decide ((g.H.l.length : Int) > 160) = false := decide_eq_false (by omega)
  by_cases n3 : g.M.l.length > 100
  · have hd3 : decide ((g.M.l.length : Int) > 100) = true := decide_eq_true (by omega)
    have Lkp2 := lt_size kp2
    refine wp_pass0 (C := fun _ _ _ => False) (κ := fun i => [0, 1, 0, 0, 0, 0, 1, 0, 0, 0, 0, 0, 1, 0, 0, 0, 0, 0, 0, 0, 0].getD i 0) [0, 1, 2, 3, 4, 5, 6, 7, 8, 9, 10, 11, 12, 13, 14, 15, 16, 17, 18, 19, 20] (by kernel_rfl) (by kernel_rfl) (fun _ _ d _ _ h => by cases d <;> first | exact h | exact absurd h (hP _ _ _)) ?_
    (refine TD.val0 (v := ?v45) (by simp only [zA, zB, zC]; rfl) rfl ?hw45 (fun w1 => ?hy45) ?hn45; (case hw45 => rfl); (case hy45 => (go_simp; (try with_reducible rfl))); (try simp only [Act.put, zF, zG, zH]))
    (refine TD.load (v := ?v46) (p := ?p46) (Mod.refl _ _) (by simp only [zA, zB, zC]; rfl) rfl ?hw46 rfl ?hx46 (fun wq hSq => ?hy46) ?hn46; (case hw46 => rfl); (case hx46 => (simp only [Act.eval, zD, zA, zB, zC, zE]; (try rfl))); (case hy46 => (have kp2q := hSq.at kp2 (fun h => h); go_simp; (try with_reducible rfl))); (try simp only [Act.put, zF, zG, zH]))
    (refine TD.val0 (v := ?v47) (by simp only [zA, zB, zC]; rfl) rfl ?hw47 (fun w1 => ?hy47) ?hn47; (case hw47 => rfl); (case hy47 => (go_simp; (try with_reducible rfl))); (try simp only [Act.put, zF, zG, zH]))
    (refine TD.val0 (v := ?v48) (by simp only [zA, zB, zC]; rfl) rfl ?hw48 (fun w1 => ?hy48) ?hn48; (case hw48 => rfl); (case hy48 => (go_simp; (try with_reducible rfl))); (try simp only [Act.put, zF, zG, zH]))
    (refine TD.val0 (v := ?v49) (by simp only [zA, zB, zC]; rfl) rfl ?hw49 (fun w1 => ?hy49) ?hn49; (case hw49 => rfl); (case hy49 => (go_simp; (try with_reducible rfl))); (try simp only [Act.put, zF, zG, zH]))
    (refine TD.val0 (v := ?v50) (by simp only [zA, zB, zC]; rfl) rfl ?hw50 (fun w1 => ?hy50) ?hn50; (case hw50 => rfl); (case hy50 => (go_simp; (try with_reducible rfl))); (try simp only [Act.put, zF, zG, zH]))
    (refine TD.load (v := ?v51) (p := ?p51) (Mod.refl _ _) (by simp only [zA, zB, zC]; rfl) rfl ?hw51 rfl ?hx51 (fun wq hSq => ?hy51) ?hn51; (case hw51 => rfl); (case hx51 => (simp only [Act.eval, zD, zA, zB, zC, zE]; (try rfl))); (case hy51 => (have kp2q := hSq.at kp2 (fun h => h); go_simp; (try with_reducible rfl))); (try simp only [Act.put, zF, zG, zH]))
    (refine TD.val0 (v := ?v52) (by simp only [zA, zB, zC]; rfl) rfl ?hw52 (fun w1 => ?hy52) ?hn52; (case hw52 => rfl); (case hy52 => (go_simp; (try with_reducible rfl))); (try simp only [Act.put, zF, zG, zH]))
    (refine TD.val0 (v := ?v53) (by simp only [zA, zB, zC]; rfl) rfl ?hw53 (fun w1 => ?hy53) ?hn53; (case hw53 => rfl); (case hy53 => (go_simp; (try with_reducible rfl))); (try simp only [Act.put, zF, zG, zH]))
    (refine TD.val0 (v := ?v54) (by simp only [zA, zB, zC]; rfl) rfl ?hw54 (fun w1 => ?hy54) ?hn54; (case hw54 => rfl); (case hy54 => (go_simp; (try with_reducible rfl))); (try simp only [Act.put, zF, zG, zH]))
    (refine TD.val0 (v := ?v55) (by simp only [zA, zB, zC]; rfl) rfl ?hw55 (fun w1 => ?hy55) ?hn55; (case hw55 => rfl); (case hy55 => (go_simp; (try with_reducible rfl))); (try simp only [Act.put, zF, zG, zH]))
    (refine TD.val0 (v := ?v56) (by simp only [zA, zB, zC]; rfl) rfl ?hw56 (fun w1 => ?hy56) ?hn56; (case hw56 => rfl); (case hy56 => (go_simp; (try with_reducible rfl))); (try simp only [Act.put, zF, zG, zH]))
    (refine TD.load (v := ?v57) (p := ?p57) (Mod.refl _ _) (by simp only [zA, zB, zC]; rfl) rfl ?hw57 rfl ?hx57 (fun wq hSq => ?hy57) ?hn57; (case hw57 => rfl); (case hx57 => (simp only [Act.eval, zD, zA, zB, zC, zE]; (try rfl))); (case hy57 => (have kp2q := hSq.at kp2 (fun h => h); go_simp; (try with_reducible rfl))); (try simp only [Act.put, zF, zG, zH]))
    (refine TD.val0 (v := ?v58) (by simp only [zA, zB, zC]; rfl) rfl ?hw58 (fun w1 => ?hy58) ?hn58; (case hw58 => rfl); (case hy58 => (go_simp; (try with_reducible rfl))); (try simp only [Act.put, zF, zG, zH]))
    (refine TD.val0 (v := ?v59) (by simp only [zA, zB, zC]; rfl) rfl ?hw59 (fun w1 => ?hy59) ?hn59; (case hw59 => rfl); (case hy59 => (go_simp; (try with_reducible rfl))); (try simp only [Act.put, zF, zG, zH]))
    (refine TD.val0 (v := ?v60) (by simp only [zA, zB, zC]; rfl) rfl ?hw60 (fun w1 => ?hy60) ?hn60; (case hw60 => rfl); (case hy60 => (go_simp; (try with_reducible rfl))); (try simp only [Act.put, zF, zG, zH]))
    (refine TD.val0 (v := ?v61) (by simp only [zA, zB, zC]; rfl) rfl ?hw61 (fun w1 => ?hy61) ?hn61; (case hw61 => rfl); (case hy61 => (go_simp; (try with_reducible rfl))); (try simp only [Act.put, zF, zG, zH]))
    (refine TD.pass (by simp only [zA, zB, zC]; rfl) rfl ?hw62 ?hn62; (case hw62 => rfl); (try simp only [Act.put, zF, zG, zH]))
    (refine TD.pass (by simp only [zA, zB, zC]; rfl) rfl ?hw63 ?hn63; (case hw63 => rfl); (try simp only [Act.put, zF, zG, zH]))
    (refine TD.pass (by simp only [zA, zB, zC]; rfl) rfl ?hw64 ?hn64; (case hw64 => rfl); (try simp only [Act.put, zF, zG, zH]))
    (refine TD.val0 (v := ?v65) (by simp only [zA, zB, zC]; rfl) rfl ?hw65 (fun w1 => ?hy65) ?hn65; (case hw65 => rfl); (case hy65 => (go_simp; (try with_reducible rfl))); (try simp only [Act.put, zF, zG, zH]))
    refine TD.nil (fun w2 hr => ?_)
    replace kp2 := hr.mod.at kp2 (fun h => h)
    have m2 := m1.then0 hr.mod
    clear hr
    go_wp2_with fail
    go_ret
    exact GrR.of true rfl (fun h => by cases h) m2
  have hd3 : decide ((g.M.l.length : Int) > 100) = false := decide_eq_false (by omega)
  have Lkp2 := lt_size kp2
  have LkA := lt_size kA
  refine wp_pass0 (C := fun _ _ _ => False) (κ := fun i => [0, 1, 0, 0, 0, 0, 1, 0, 0, 0, 0, 0, 1, 0, 0, 0, 0, 0, 0, 0, 0].getD i 0) [0, 1, 2, 3, 4, 5, 6, 7, 8, 9, 10, 11, 12, 13, 14, 15, 16, 17, 18, 19, 20] (by kernel_rfl) (by kernel_rfl) (fun _ _ d _ _ h => by cases d <;> first | exact h | exact absurd h (hP _ _ _)) ?_
  (refine TD.val0 (v := ?v66) (by simp only [zA, zB, zC]; rfl) rfl ?hw66 (fun w1 => ?hy66) ?hn66; (case hw66 => rfl); (case hy66 => (go_simp; (try with_reducible rfl))); (try simp only [Act.put, zF, zG, zH]))
  (refine TD.load (v := ?v67) (p := ?p67) (Mod.refl _ _) (by simp only [zA, zB, zC]; rfl) rfl ?hw67 rfl ?hx67 (fun wq hSq => ?hy67) ?hn67; (case hw67 => rfl); (case hx67 => (simp only [Act.eval, zD, zA, zB, zC, zE]; (try rfl))); (case hy67 => (have kp2q := hSq.at kp2 (fun h => h); have kAq := hSq.at kA (fun h => h); go_simp; (try with_reducible rfl))); (try simp only [Act.put, zF, zG, zH]))
  (refine TD.val0 (v := ?v68) (by simp only [zA, zB, zC]; rfl) rfl ?hw68 (fun w1 => ?hy68) ?hn68; (case hw68 => rfl); (case hy68 => (go_simp; (try with_reducible rfl))); (try simp only [Act.put, zF, zG, zH]))
  (refine TD.val0 (v := ?v69) (by simp only [zA, zB, zC]; rfl) rfl ?hw69 (fun w1 => ?hy69) ?hn69; (case hw69 => rfl); (case hy69 => (go_simp; (try with_reducible rfl))); (try simp only [Act.put, zF, zG, zH]))
  (refine TD.val0 (v := ?v70) (by simp only [zA, zB, zC]; rfl) rfl ?hw70 (fun w1 => ?hy70) ?hn70; (case hw70 => rfl); (case hy70 => (go_simp; (try with_reducible rfl))); (try simp only [Act.put, zF, zG, zH]))
  (refine TD.val0 (v := ?v71) (by simp only [zA, zB, zC]; rfl) rfl ?hw71 (fun w1 => ?hy71) ?hn71; (case hw71 => rfl); (case hy71 => (go_simp; (try with_reducible rfl))); (try simp only [Act.put, zF, zG, zH]))
  (refine TD.load (v := ?v72) (p := ?p72) (Mod.refl _ _) (by simp only [zA, zB, zC]; rfl) rfl ?hw72 rfl ?hx72 (fun wq hSq => ?hy72) ?hn72; (case hw72 => rfl); (case hx72 => (simp only [Act.eval, zD, zA, zB, zC, zE]; (try rfl))); (case hy72 => (have kp2q := hSq.at kp2 (fun h => h); have kAq := hSq.at kA (fun h => h); go_simp; (try with_reducible rfl))); (try simp only [Act.put, zF, zG, zH]))
  (refine TD.val0 (v := ?v73) (by simp only [zA, zB, zC]; rfl) rfl ?hw73 (fun w1 => ?hy73) ?hn73; (case hw73 => rfl); (case hy73 => (go_simp; (try with_reducible rfl))); (try simp only [Act.put, zF, zG, zH]))
  (refine TD.val0 (v := ?v74) (by simp only [zA, zB, zC]; rfl) rfl ?hw74 (fun w1 => ?hy74) ?hn74; (case hw74 => rfl); (case hy74 => (go_simp; (try with_reducible rfl))); (try simp only [Act.put, zF, zG, zH]))
  (refine TD.val0 (v := ?v75) (by simp only [zA, zB, zC]; rfl) rfl ?hw75 (fun w1 => ?hy75) ?hn75; (case hw75 => rfl); (case hy75 => (go_simp; (try with_reducible rfl))); (try simp only [Act.put, zF, zG, zH]))
  (refine TD.val0 (v := ?v76) (by simp only [zA, zB, zC]; rfl) rfl ?hw76 (fun w1 => ?hy76) ?hn76; (case hw76 => rfl); (case hy76 => (go_simp; (try with_reducible rfl))); (try simp only [Act.put, zF, zG, zH]))
  (refine TD.val0 (v := ?v77) (by simp only [zA, zB, zC]; rfl) rfl ?hw77 (fun w1 => ?hy77) ?hn77; (case hw77 => rfl); (case hy77 => (go_simp; (try with_reducible rfl))); (try simp only [Act.put, zF, zG, zH]))
  (refine TD.load (v := ?v78) (p := ?p78) (Mod.refl _ _) (by simp only [zA, zB, zC]; rfl) rfl ?hw78 rfl ?hx78 (fun wq hSq => ?hy78) ?hn78; (case hw78 => rfl); (case hx78 => (simp only [Act.eval, zD, zA, zB, zC, zE]; (try rfl))); (case hy78 => (have kp2q := hSq.at kp2 (fun h => h); have kAq := hSq.at kA (fun h => h); go_simp; (try with_reducible rfl))); (try simp only [Act.put, zF, zG, zH]))
  (refine TD.val0 (v := ?v79) (by simp only [zA, zB, zC]; rfl) rfl ?hw79 (fun w1 => ?hy79) ?hn79; (case hw79 => rfl); (case hy79 => (go_simp; (try with_reducible rfl))); (try simp only [Act.put, zF, zG, zH]))
  (refine TD.val0 (v := ?v80) (by simp only [zA, zB, zC]; rfl) rfl ?hw80 (fun w1 => ?hy80) ?hn80; (case hw80 => rfl); (case hy80 => (go_simp; (try with_reducible rfl))); (try simp only [Act.put, zF, zG, zH]))
  (refine TD.val0 (v := ?v81) (by simp only [zA, zB, zC]; rfl) rfl ?hw81 (fun w1 => ?hy81) ?hn81; (case hw81 => rfl); (case hy81 => (go_simp; (try with_reducible rfl))); (try simp only [Act.put, zF, zG, zH]))
  (refine TD.val0 (v := ?v82) (by simp only [zA, zB, zC]; rfl) rfl ?hw82 (fun w1 => ?hy82) ?hn82; (case hw82 => rfl); (case hy82 => (go_simp; (try with_reducible rfl))); (try simp only [Act.put, zF, zG, zH]))
  (refine TD.val0 (v := ?v83) (by simp only [zA, zB, zC]; rfl) rfl ?hw83 (fun w1 => ?hy83) ?hn83; (case hw83 => rfl); (case hy83 => (go_simp; (try with_reducible rfl))); (try simp only [Act.put, zF, zG, zH]))
  (refine TD.val0 (v := ?v84) (by simp only [zA, zB, zC]; rfl) rfl ?hw84 (fun w1 => ?hy84) ?hn84; (case hw84 => rfl); (case hy84 => (go_simp; (try with_reducible rfl))); (try simp only [Act.put, zF, zG, zH]))
  (refine TD.val0 (v := ?v85) (by simp only [zA, zB, zC]; rfl) rfl ?hw85 (fun w1 => ?hy85) ?hn85; (case hw85 => rfl); (case hy85 => (go_simp; (try with_reducible rfl))); (try simp only [Act.put, zF, zG, zH]))
  (refine TD.val0 (v := ?v86) (by simp only [zA, zB, zC]; rfl) rfl ?hw86 (fun w1 => ?hy86) ?hn86; (case hw86 => rfl); (case hy86 => (go_simp; (try with_reducible rfl))); (try simp only [Act.put, zF, zG, zH]))
  refine TD.nil (fun w2 hr => ?_)
  replace kp2 := hr.mod.at kp2 (fun h => h)
  replace kA := hr.mod.at kA (fun h => h)
  have m2 := m1.then0 hr.mod
  have HN := Lib.hid (And.intro n1 (And.intro n2 n3))
  have KA := Lib.hid kA
  have HM2 := Lib.hid m2
  clear hr n1 n2 n3 hd1 hd2 hd3
  go_wp2_with fail
  go_loopw [5, 6] (fun s5 s6 ws => ∃ (i : Nat) (n : Int), i ≤ 1 ∧ s5 = .int .i64 n ∧ s6 = .int .i64 (i : Int) ∧ Hid ((l.length ≤ 100000 → n = (if i = 0 then 0 else ((l.map wtT).sum : Nat)) ∧ (i = 1 → ∀ x ∈ l, TdSm x))) ∧ Hid (Mod (fun _ => False) w2 ws)) (fun _ s6 _ => 1 - (intOf s6).toNat)
  case atStart => exact ⟨0, 0, by omega, rfl, rfl, Lib.hid (fun _ => ⟨rfl, fun h => by omega⟩), Lib.hid (Mod.refl _ _)⟩
  case round =>
    obtain ⟨i, n, hi, rfl, rfl, HI, HM⟩ := hrel
    have kA := HM.out.at0 kA
    rcases (by omega : i = 0 ∨ i = 1) with rfl | rfl
    · go_upto_region 7 with fail
      go_wp2_with fail
      go_loopw [5, 7] (fun s5 s7 ws => ∃ (j : Nat) (n : Int), j ≤ ll ∧ s5 = .int .i64 n ∧ s7 = .int .i64 (j : Int) ∧ Hid ((l.length ≤ 100000 → n = (((l.take j).map wtT).sum : Nat)) ∧ ∀ x ∈ l.take j, TdSm x) ∧ Hid (Mod (fun _ => False) w2 ws)) (fun _ s7 _ => ll - (intOf s7).toNat)
      case atStart => exact ⟨0, n, by omega, rfl, rfl, Lib.hid ⟨fun h => by rw [(HI.out h).1]; simp, fun x hx => by simp at hx⟩, HM⟩
      case round =>
        clear kA
        obtain ⟨j, n2, hj, rfl, rfl, HJ, HM3⟩ := hrel
        have kA := HM3.out.at0 KA.out
        have hjb : ll ≤ 140737488355328 := by rw [← HLL.out]; exact HL.out.2.2
        by_cases hlt : j < ll
        · have hdl := decide_eq_true hlt
          obtain ⟨x, hx⟩ : ∃ x, l[j]? = some x := ⟨_, List.getElem?_eq_getElem (by rw [HLL.out]; exact hlt)⟩
          obtain ⟨gg, o, C, U, fr, rfl, kl, he, hle, c0, c41, c53, -⟩ := td_parts (HL.out.1.mod0 (HM2.out.trans HM3.out)) hx
          have HX : Hid (l.take (j + 1) = l.take j ++ [x] ∧ x ∈ l) := Lib.hid ⟨by rw [List.take_add_one, hx]; rfl, List.mem_of_getElem? hx⟩
          have hlk := HL.out.2.1 x HX.out.2
          clear hx
          go_upto_region 10 with fail
          go_wp2_with fail
          go_at_call 12
          refine (great15_c x.r _ (hlk.1.mod0 (HM2.out.trans HM3.out)) (hlk.2.1.mod0 (HM2.out.trans HM3.out)) hlk.2.2.1 hlk.2.2.2.1).mono ?_
          have HLK := Lib.hid hlk.2.2.2.2
          clear hlk
          rintro e w4 ⟨bz, rfl, hbz, m4⟩
          replace kA := m4.at0 kA
          replace kl := m4.at0 kl
          have HM4 := Lib.hid (HM3.out.then0 m4)
          clear m4
          cases bz with
          | true =>
            clear hbz
            go_wp2_with fail
            go_ret
            exact GrR.of true rfl (fun h => by cases h) (HM2.out.trans HM4.out)
          | false =>
            have HBZ := Lib.hid (hbz rfl)
            clear hbz
            by_cases hc : x.o.ch.l.length > 200
            · have hdc : decide ((x.o.ch.l.length : Int) > 200) = true := decide_eq_true (by omega)
              go_wp2_with fail
              go_ret
              exact GrR.of true rfl (fun h => by cases h) (HM2.out.trans HM4.out)
            · have hdc : decide ((x.o.ch.l.length : Int) > 200) = false := decide_eq_false (by omega)
              have HC := Lib.hid hc
              clear hc
              go_upto_region 12 with fail
              have LkA := lt_size kA
              have Lkl := lt_size kl
              refine wp_pass (C := fun _ _ _ => False) (κ := fun i => [0, 0, 0, 0, 0, 0, 1, 0, 0, 0, 0, 1, 0, 0, 0, 0, 0, 0, 1, 0, 0, 0, 0, 1, 0, 0, 0, 0].getD i 0) [0, 1, 2, 3, 4, 5, 6, 7, 8, 9, 10, 11, 12, 13, 14, 15, 16, 17, 18, 19, 20, 21, 22, 23, 24, 25, 26, 27] (by kernel_rfl) (by kernel_rfl) (fun _ _ d _ _ h => by cases d <;> first | exact h | exact absurd h (hP _ _ _)) ?_
              (refine TD.val0 (v := ?v87) (by simp only [zA, zB, zC]; rfl) rfl ?hw87 (fun w1 => ?hy87) ?hn87; (case hw87 => rfl); (case hy87 => (go_simp; (try with_reducible rfl))); (try simp only [Act.put, zF, zG, zH]))
              (refine TD.val0 (v := ?v88) (by simp only [zA, zB, zC]; rfl) rfl ?hw88 (fun w1 => ?hy88) ?hn88; (case hw88 => rfl); (case hy88 => (go_simp; (try with_reducible rfl))); (try simp only [Act.put, zF, zG, zH]))
              (refine TD.val0 (v := ?v89) (by simp only [zA, zB, zC]; rfl) rfl ?hw89 (fun w1 => ?hy89) ?hn89; (case hw89 => rfl); (case hy89 => (go_simp; (try with_reducible rfl))); (try simp only [Act.put, zF, zG, zH]))
              (refine TD.val0 (v := ?v90) (by simp only [zA, zB, zC]; rfl) rfl ?hw90 (fun w1 => ?hy90) ?hn90; (case hw90 => rfl); (case hy90 => (go_simp; (try with_reducible rfl))); (try simp only [Act.put, zF, zG, zH]))
              (refine TD.val0 (v := ?v91) (by simp only [zA, zB, zC]; rfl) rfl ?hw91 (fun w1 => ?hy91) ?hn91; (case hw91 => rfl); (case hy91 => (go_simp; (try with_reducible rfl))); (try simp only [Act.put, zF, zG, zH]))
              (refine TD.val0 (v := ?v92) (by simp only [zA, zB, zC]; rfl) rfl ?hw92 (fun w1 => ?hy92) ?hn92; (case hw92 => rfl); (case hy92 => (go_simp; (try with_reducible rfl))); (try simp only [Act.put, zF, zG, zH]))
              (refine TD.load (v := ?v93) (p := ?p93) (Mod.refl _ _) (by simp only [zA, zB, zC]; rfl) rfl ?hw93 rfl ?hx93 (fun wq hSq => ?hy93) ?hn93; (case hw93 => rfl); (case hx93 => (simp only [Act.eval, zD, zA, zB, zC, zE]; (try rfl))); (case hy93 => (have kAq := hSq.at kA (fun h => h); have klq := hSq.at kl (fun h => h); go_simp; (try with_reducible rfl))); (try simp only [Act.put, zF, zG, zH]))
              (refine TD.val0 (v := ?v94) (by simp only [zA, zB, zC]; rfl) rfl ?hw94 (fun w1 => ?hy94) ?hn94; (case hw94 => rfl); (case hy94 => (go_simp; (try with_reducible rfl))); (try simp only [Act.put, zF, zG, zH]))
              (refine TD.val0 (v := ?v95) (by simp only [zA, zB, zC]; rfl) rfl ?hw95 (fun w1 => ?hy95) ?hn95; (case hw95 => rfl); (case hy95 => (go_simp; (try with_reducible rfl))); (try simp only [Act.put, zF, zG, zH]))
              (refine TD.val0 (v := ?v96) (by simp only [zA, zB, zC]; rfl) rfl ?hw96 (fun w1 => ?hy96) ?hn96; (case hw96 => rfl); (case hy96 => (go_simp; (try with_reducible rfl))); (try simp only [Act.put, zF, zG, zH]))
              (refine TD.val0 (v := ?v97) (by simp only [zA, zB, zC]; rfl) rfl ?hw97 (fun w1 => ?hy97) ?hn97; (case hw97 => rfl); (case hy97 => (go_simp; (try with_reducible rfl))); (try simp only [Act.put, zF, zG, zH]))
              (refine TD.load (v := ?v98) (p := ?p98) (Mod.refl _ _) (by simp only [zA, zB, zC]; rfl) rfl ?hw98 rfl ?hx98 (fun wq hSq => ?hy98) ?hn98; (case hw98 => rfl); (case hx98 => (simp only [Act.eval, zD, zA, zB, zC, zE]; (try rfl))); (case hy98 => (have kAq := hSq.at kA (fun h => h); have klq := hSq.at kl (fun h => h); go_simp; (try with_reducible rfl))); (try simp only [Act.put, zF, zG, zH]))
              (refine TD.val0 (v := ?v99) (by simp only [zA, zB, zC]; rfl) rfl ?hw99 (fun w1 => ?hy99) ?hn99; (case hw99 => rfl); (case hy99 => (go_simp; (try with_reducible rfl))); (try simp only [Act.put, zF, zG, zH]))
              (refine TD.val0 (v := ?v100) (by simp only [zA, zB, zC]; rfl) rfl ?hw100 (fun w1 => ?hy100) ?hn100; (case hw100 => rfl); (case hy100 => (go_simp; (try with_reducible rfl))); (try simp only [Act.put, zF, zG, zH]))
              (refine TD.val0 (v := ?v101) (by simp only [zA, zB, zC]; rfl) rfl ?hw101 (fun w1 => ?hy101) ?hn101; (case hw101 => rfl); (case hy101 => (go_simp; (try with_reducible rfl))); (try simp only [Act.put, zF, zG, zH]))
              (refine TD.val0 (v := ?v102) (by simp only [zA, zB, zC]; rfl) rfl ?hw102 (fun w1 => ?hy102) ?hn102; (case hw102 => rfl); (case hy102 => (go_simp; (try with_reducible rfl))); (try simp only [Act.put, zF, zG, zH]))
              (refine TD.val0 (v := ?v103) (by simp only [zA, zB, zC]; rfl) rfl ?hw103 (fun w1 => ?hy103) ?hn103; (case hw103 => rfl); (case hy103 => (go_simp; (try with_reducible rfl))); (try simp only [Act.put, zF, zG, zH]))
              (refine TD.val0 (v := ?v104) (by simp only [zA, zB, zC]; rfl) rfl ?hw104 (fun w1 => ?hy104) ?hn104; (case hw104 => rfl); (case hy104 => (go_simp; (try with_reducible rfl))); (try simp only [Act.put, zF, zG, zH]))
              (refine TD.load (v := ?v105) (p := ?p105) (Mod.refl _ _) (by simp only [zA, zB, zC]; rfl) rfl ?hw105 rfl ?hx105 (fun wq hSq => ?hy105) ?hn105; (case hw105 => rfl); (case hx105 => (simp only [Act.eval, zD, zA, zB, zC, zE]; (try rfl))); (case hy105 => (have kAq := hSq.at kA (fun h => h); have klq := hSq.at kl (fun h => h); go_simp; (try with_reducible rfl))); (try simp only [Act.put, zF, zG, zH]))
              (refine TD.val0 (v := ?v106) (by simp only [zA, zB, zC]; rfl) rfl ?hw106 (fun w1 => ?hy106) ?hn106; (case hw106 => rfl); (case hy106 => (go_simp; (try with_reducible rfl))); (try simp only [Act.put, zF, zG, zH]))
              (refine TD.val0 (v := ?v107) (by simp only [zA, zB, zC]; rfl) rfl ?hw107 (fun w1 => ?hy107) ?hn107; (case hw107 => rfl); (case hy107 => (go_simp; (try with_reducible rfl))); (try simp only [Act.put, zF, zG, zH]))
              (refine TD.val0 (v := ?v108) (by simp only [zA, zB, zC]; rfl) rfl ?hw108 (fun w1 => ?hy108) ?hn108; (case hw108 => rfl); (case hy108 => (go_simp; (try with_reducible rfl))); (try simp only [Act.put, zF, zG, zH]))
              (refine TD.val0 (v := ?v109) (by simp only [zA, zB, zC]; rfl) rfl ?hw109 (fun w1 => ?hy109) ?hn109; (case hw109 => rfl); (case hy109 => (go_simp; (try with_reducible rfl))); (try simp only [Act.put, zF, zG, zH]))
              (refine TD.load (v := ?v110) (p := ?p110) (Mod.refl _ _) (by simp only [zA, zB, zC]; rfl) rfl ?hw110 rfl ?hx110 (fun wq hSq => ?hy110) ?hn110; (case hw110 => rfl); (case hx110 => (simp only [Act.eval, zD, zA, zB, zC, zE]; (try rfl))); (case hy110 => (have kAq := hSq.at kA (fun h => h); have klq := hSq.at kl (fun h => h); go_simp; (try with_reducible rfl))); (try simp only [Act.put, zF, zG, zH]))
              (refine TD.val0 (v := ?v111) (by simp only [zA, zB, zC]; rfl) rfl ?hw111 (fun w1 => ?hy111) ?hn111; (case hw111 => rfl); (case hy111 => (go_simp; (try with_reducible rfl))); (try simp only [Act.put, zF, zG, zH]))
              (refine TD.val0 (v := ?v112) (by simp only [zA, zB, zC]; rfl) rfl ?hw112 (fun w1 => ?hy112) ?hn112; (case hw112 => rfl); (case hy112 => (go_simp; (try with_reducible rfl))); (try simp only [Act.put, zF, zG, zH]))
              (refine TD.val0 (v := ?v113) (by simp only [zA, zB, zC]; rfl) rfl ?hw113 (fun w1 => ?hy113) ?hn113; (case hw113 => rfl); (case hy113 => (go_simp; (try with_reducible rfl))); (try simp only [Act.put, zF, zG, zH]))
              (refine TD.val0 (v := ?v114) (by simp only [zA, zB, zC]; rfl) rfl ?hw114 (fun w1 => ?hy114) ?hn114; (case hw114 => rfl); (case hy114 => (go_simp; (try with_reducible rfl))); (try simp only [Act.put, zF, zG, zH]))
              refine TD.nil (fun w5 hr => ?_)
              replace kA := hr.mod.at kA (fun h => h)
              replace kl := hr.mod.at kl (fun h => h)
              have m5 := hr.mod
              clear hr
              go_wp2_with fail
              go_roundw
              case rel =>
                refine ⟨j + 1, _, by omega, rfl, by go_num, Lib.hid ?_, Lib.hid (HM4.out.then0 m5)⟩
                have hc := HC.out
                have hz : TdSm x := ⟨HBZ.out.1, HBZ.out.2, by omega⟩
                refine ⟨fun h => wt_step HX.out.1 h (HJ.out.1 h) HJ.out.2 hz (fun y hy => (HL.out.2.1 y hy).2.2.2.2), fun y hy => ?_⟩
                rw [HX.out.1] at hy
                rcases List.mem_append.1 hy with h | h
                · exact HJ.out.2 y h
                · rw [List.mem_singleton.1 h]
                  exact hz
              case measure => simp [intOf]; omega
        · obtain rfl : j = ll := by omega
          go_wp2_with fail
          go_roundw
          case rel =>
            have hj := HJ.out
            rw [List.take_of_length_le (by rw [HLL.out]; omega)] at hj
            exact ⟨1, n2, by omega, rfl, by go_num, Lib.hid (fun h => ⟨hj.1 h, fun _ => hj.2⟩), HM3⟩
          case measure => simp [intOf]
    · go_upto_region 13 with fail
      by_cases hz : n > 600
      · have hd := decide_eq_true hz
        go_wp2_with fail
        go_ret
        exact GrR.of true rfl (fun h => by cases h) (HM2.out.trans HM.out)
      · have hd := decide_eq_false hz
        go_wp2_with fail
        go_ret
        have h1 := HN.out
        exact GrR.of false rfl (fun _ => ⟨⟨by omega, by omega, by omega⟩, fun h => ⟨(HI.out h).2 (by first | exact rfl | trivial), by have := (HI.out h).1; simp at this; omega⟩⟩) (HM2.out.trans HM.out)
end Go.Proofs.Ytofpnmoeimjnnaa
namespace Go.Proofs.Ytofpnmoeimjnnaa
open Go.RowKit
open Go.ChangeMaps (setBlock)
set_option linter.unusedSimpArgs false
set_option linter.unusedVariables false
attribute [local go_sem ↓] wlKey ldKey stKey wlAcct ldAcct stAcct wlHold ldHold stHold wlHash ldHash stHash wlSig ldSig stSig wlLim ldLim stLim wlRdy ldRdy stRdy wlOut ldOut stOut wlTd ldTd stTd wlTx ldTx stTx eqKey1
attribute [local go_sem] eqMap neMap av_size av_all av_one hd_size hd_key hd_acct hd_all hd_one zKey_size zAcct_size zHold_size zHash_size zSg_size zLim_size zRdy_size zOut_size zTried_size zTx_size cell_blk frozen_blk kc_ext one_int one_bool one_ptr one_slice one_map kc_one kc_one0 kc_size sgc_size sgc_ext sgc_one0 sgc_one' rdr_size rdr_all rdr_one rdr_tx rdr_rec rdr0 rdr1 rdr6 rdr39 rdr40 rdr41 rdr0' rdr1' rdr6' rdr39' rdr40' rdr41' ocr_size ocr_all ocr_one ocr2 ocr3 ocr4 ocr5 ocr2' ocr3' ocr4' ocr5' tdr_size tdr_all tdr_one tdr_r tdr_o tdr_tx tdr_rec tdr0 tdr1 tdr41 tdr50 tdr51 tdr52 tdr53 tdr0' tdr1' tdr41' tdr50' tdr51' tdr52' tdr53' txr_size txr_all txr_one txr0 txr38 txr39 txr0' txr38' txr39' Value.cells
inductive RSteps : BS → List TdR → List Nat → BS → Prop
  | nil (S : BS) : RSteps S [] [] S
  | cons {S S1 S2 : BS} {x : TdR} {n : Nat} {l : List TdR} {vs : List Nat} (hx : RStep S x n S1) (h : RSteps S1 l vs S2) : RSteps S (x :: l) (n :: vs) S2
theorem RSteps.snoc {S S1 S2 : BS} {x : TdR} {n : Nat} {l : List TdR} {vs : List Nat} (h : RSteps S l vs S1) (hx : RStep S1 x n S2) : RSteps S (l ++ [x]) (vs ++ [n]) S2 := by
  induction h with
  | nil S => exact .cons hx (.nil _)
  | cons hy h ih => exact .cons hy (ih hx)
theorem RRun.steps {S S' : BS} {l : List TdR} {vs : List Nat} {e : List UInt8} {k : Nat} (h : RRun S l vs e k S') : RSteps S l vs S' := by
  induction h with
  | nil => exact .nil _
  | snoc h hx ih => exact ih.snoc hx
theorem RSteps.step {S S' : BS} {l : List TdR} {vs : List Nat} {i : Nat} {x : TdR} (h : RSteps S (l.drop i) (vs.drop i) S') (hx : l[i]? = some x) : ∃ n S1, vs[i]? = some n ∧ RStep S x n S1 ∧ RSteps S1 (l.drop (i + 1)) (vs.drop (i + 1)) S' := by
  obtain ⟨hi, rfl⟩ := List.getElem?_eq_some_iff.1 hx
  rw [List.drop_eq_getElem_cons hi] at h
  generalize hvs : vs.drop i = vd at h
  cases h with
  | cons hs ht =>
    rename_i S1 n vs'
    have h1 : vs[i]? = some n := by
      have := congrArg (·[0]?) hvs
      simpa using this
    have h2 : vs.drop (i + 1) = vs' := by
      rw [← List.tail_drop, hvs]
      rfl
    exact ⟨n, S1, h1, hs, by rw [h2]; exact ht⟩
theorem RStep.same {S S' : BS} {x : TdR} {n : Nat} (h : RStep S x n S') : S'.en = S.en ∧ S'.L = S.L ∧ S'.H = S.H := by
  rcases h.2 with ⟨_, rfl⟩ | ⟨_, done, _, rfl⟩ <;> exact ⟨rfl, rfl, rfl⟩
def RoI (S : BS) (sum space : UInt64) (f : Key → UInt64) : Prop := S.en = false ∧ S.b = sum ∧ S.sp = space ∧ ∀ k, f k = ofK S.m k ∧ f k ≤ sum
theorem frV_cases (H : List Key) (N : List (Sg × Key)) (x : RdR) : frV H N x = 0 ∨ frV H N x = 27 ∨ frV H N x = 28 := by
  unfold frV
  split
  · split <;> simp
  · simp
def overL (x c m : UInt64) : Bool := decide (x + c < x) || decide (m < x + c)
theorem overL_eq (x c m : UInt64) : overL x c m = over x c m := by
  unfold overL over
  rw [decide_eq_decide.2 round_sym]
theorem room_step {S S' : BS} {x : TdR} {n : Nat} {sum space : UInt64} {f : Key → UInt64} (hI : RoI S sum space f) (h : RStep S x n S') :
    (n = 24 → overL sum (coX x) S.L.b = true) ∧ (n = 25 → (wrL x.r.ro.l).any (fun k => over (f k) (coX x) S.L.a) = true) ∧ (n = 26 → overL space x.o.sp S.L.s = true) ∧
    (n = 0 → ¬ sum + coX x < sum → ¬ space + x.o.sp < space → overL sum (coX x) S.L.b = false ∧ (wrL x.r.ro.l).any (fun k => over (f k) (coX x) S.L.a) = false ∧ overL space x.o.sp S.L.s = false ∧
      RoI S' (sum + coX x) (space + x.o.sp) (fun k => if k ∈ wrL x.r.ro.l then f k + coX x else f k)) ∧
    (n ≠ 0 → RoI S' sum space f) := by
  obtain ⟨he, rfl, rfl, hf⟩ := hI
  obtain ⟨hn, hs⟩ := h
  have hff : f = ofK S.m := funext fun k => (hf k).1
  have hv : ∀ v, v ≠ 0 → v ≠ 27 → v ≠ 28 → v ≠ 23 → n = v → would S.L S.b S.sp (ofK S.m) (coX x) (wrL x.r.ro.l) x.o.sp = v := fun v h0 h1 h2 h3 hnv => by
    rw [hn] at hnv
    unfold vdN at hnv
    rw [he] at hnv
    rcases frV_cases S.H S.N x.r with h | h | h <;> rw [h] at hnv <;> simp at hnv <;> omega
  refine ⟨fun h => ?_, fun h => ?_, fun h => ?_, fun h h1 h2 => ?_, fun h => ?_⟩
  · have := hv 24 (by omega) (by omega) (by omega) (by omega) h
    rw [overL_eq]
    rcases would_cases S.L S.b S.sp (ofK S.m) (coX x) (wrL x.r.ro.l) x.o.sp with ⟨g, g2⟩ | ⟨g, g2⟩ | ⟨g, g2⟩ | ⟨g, g2⟩
    · exact over_of g2
    all_goals (rw [g] at this; omega)
  · have := hv 25 (by omega) (by omega) (by omega) (by omega) h
    rcases would_cases S.L S.b S.sp (ofK S.m) (coX x) (wrL x.r.ro.l) x.o.sp with ⟨g, g2⟩ | ⟨g, g2⟩ | ⟨g, g2⟩ | ⟨g, g2⟩
    · rw [g] at this; omega
    · obtain ⟨k, hk, hlt⟩ := g2
      exact List.any_eq_true.2 ⟨k, hk, by rw [hff]; exact over_of hlt⟩
    all_goals (rw [g] at this; omega)
  · have := hv 26 (by omega) (by omega) (by omega) (by omega) h
    rw [overL_eq]
    rcases would_cases S.L S.b S.sp (ofK S.m) (coX x) (wrL x.r.ro.l) x.o.sp with ⟨g, g2⟩ | ⟨g, g2⟩ | ⟨g, g2⟩ | ⟨g, g2⟩
    · rw [g] at this; omega
    · rw [g] at this; omega
    · exact over_of g2
    · rw [g] at this; omega
  · have hw : would S.L S.b S.sp (ofK S.m) (coX x) (wrL x.r.ro.l) x.o.sp = 0 := by
      rw [hn] at h
      unfold vdN at h
      rw [he] at h
      rcases frV_cases S.H S.N x.r with h' | h' | h' <;> rw [h'] at h <;> simp at h
      exact h
    have hr1 : ¬ S.b + coX x < coX x := fun h' => h1 (round_sym.2 h')
    have hr2 : ¬ S.sp + x.o.sp < x.o.sp := fun h' => h2 (round_sym.2 h')
    have hrk : ∀ k, ¬ f k + coX x < coX x ∧ f k + coX x ≤ S.b + coX x := fun k => by
      have h3 := (hf k).2
      rw [UInt64.lt_iff_toNat_lt, UInt64.toNat_add] at hr1
      rw [UInt64.le_iff_toNat_le] at h3
      rw [UInt64.lt_iff_toNat_lt, UInt64.le_iff_toNat_le, UInt64.toNat_add, UInt64.toNat_add]
      have g1 := S.b.toNat_lt
      have g2 := (coX x).toNat_lt
      have g3 := (f k).toNat_lt
      omega
    rcases would_cases S.L S.b S.sp (ofK S.m) (coX x) (wrL x.r.ro.l) x.o.sp with ⟨g, _⟩ | ⟨g, _⟩ | ⟨g, _⟩ | ⟨_, g1, g2, g3⟩
    · rw [g] at hw; omega
    · rw [g] at hw; omega
    · rw [g] at hw; omega
    · refine ⟨by rw [overL_eq]; exact over_not g1 hr1, ?_, by rw [overL_eq]; exact over_not g3 hr2, ?_⟩
      · rw [List.any_eq_false]
        intro k hk
        have := g2 k hk
        rw [← hff] at this
        rw [over_not this (hrk k).1]
        simp
      · rcases hs with ⟨h0, _⟩ | ⟨_, done, hd, rfl⟩
        · exact absurd h h0
        · refine ⟨he, sat_eq hr1, sat_eq hr2, fun k => ⟨?_, ?_⟩⟩
          · show (if k ∈ wrL x.r.ro.l then f k + coX x else f k) = ofK (putL done S.m) k
            rw [ofK_added (f := adF S.m (coX x)) rfl hd]
            by_cases hk : k ∈ wrL x.r.ro.l
            · rw [if_pos hk, if_pos hk]
              unfold adF
              rw [← hff, sat_eq (hrk k).1]
            · rw [if_neg hk, if_neg hk]
              exact (hf k).1
          · show (if k ∈ wrL x.r.ro.l then f k + coX x else f k) ≤ _
            by_cases hk : k ∈ wrL x.r.ro.l
            · rw [if_pos hk]
              exact (hrk k).2
            · rw [if_neg hk]
              have h3 := (hf k).2
              rw [UInt64.lt_iff_toNat_lt, UInt64.toNat_add] at h1
              rw [UInt64.le_iff_toNat_le] at h3 ⊢
              rw [UInt64.toNat_add]
              have g1 := S.b.toNat_lt
              have g2 := (coX x).toNat_lt
              omega
  · rcases hs with ⟨_, rfl⟩ | ⟨h0, _⟩
    · exact ⟨he, rfl, rfl, hf⟩
    · exact absurd h0 h
theorem tblock_c {t m : Nat} {L : Lim} {bb sp : UInt64} {l : List (Key × UInt64)} (w : World) (h : TrAt w t m L bb sp l) : Calls Try.prog 42 #[ptrV t] w fun e w' => e = .returned (u64v bb) ∧ w' = w := by
  obtain ⟨kt, _⟩ := h
  go_enter Try.func42, Try.ntmps42
  go_wp2_with fail
  go_ret
  exact ⟨rfl, rfl⟩
theorem bcost_c {Tn Tr : Nat → Prop} {b s : Nat} {S : BS} (w : World) (h : BkAt Tn Tr w b s S) : Calls Try.prog 11 #[ptrV b] w fun e w' => e = .returned (u64v S.b) ∧ w' = w := by
  obtain ⟨q, n, t, m, ea, en, ec, oa, on, oc, er, orr, kb, ⟨hq, hn, ht⟩, _⟩ := h
  have HT := Lib.hid ht
  have KB := Lib.hid kb
  clear hq hn ht
  go_enter Try.func11, Try.ntmps11
  go_wp2_with fail
  go_at_call 33
  refine (bthere_c _ KB.out).mono ?_
  rintro e w2 ⟨rfl, rfl⟩
  unfold blkC at kb
  go_wp2_with fail
  go_at_call 42
  refine (tblock_c _ HT.out).mono ?_
  rintro e w3 ⟨rfl, rfl⟩
  go_wp2_with fail
  go_ret
  exact ⟨rfl, rfl⟩
end Go.Proofs.Ytofpnmoeimjnnaa
namespace Go.Proofs.Ytofpnmoeimjnnaa
open Go.RowKit
open Go.ChangeMaps (setBlock)
set_option linter.unusedSimpArgs false
set_option linter.unusedVariables false
attribute [local go_sem ↓] wlKey ldKey stKey wlAcct ldAcct stAcct wlHold ldHold stHold wlHash ldHash stHash wlSig ldSig stSig wlLim ldLim stLim wlRdy ldRdy stRdy wlOut ldOut stOut wlTd ldTd stTd wlTx ldTx stTx eqKey1
attribute [local go_sem] eqMap neMap av_size av_all av_one hd_size hd_key hd_acct hd_all hd_one zKey_size zAcct_size zHold_size zHash_size zSg_size zLim_size zRdy_size zOut_size zTried_size zTx_size cell_blk frozen_blk kc_ext one_int one_bool one_ptr one_slice one_map kc_one kc_one0 kc_size sgc_size sgc_ext sgc_one0 sgc_one' rdr_size rdr_all rdr_one rdr_tx rdr_rec rdr0 rdr1 rdr41 rdr0' rdr1' rdr41' ocr_size ocr_all ocr_one ocr2 ocr3 ocr4 ocr5 ocr2' ocr3' ocr4' ocr5' tdr_size tdr_all tdr_one tdr_r tdr_o tdr_tx tdr_rec tdr0 tdr1 tdr41 tdr50 tdr51 tdr52 tdr53 tdr0' tdr1' tdr41' tdr50' tdr51' tdr52' tdr53' txr_size txr_all txr_one txr0 txr38 txr39 txr0' txr38' txr39' Value.cells
def zb8 : Array Value := #[.int .u8 0, .int .u8 0, .int .u8 0, .int .u8 0, .int .u8 0, .int .u8 0, .int .u8 0, .int .u8 0]
set_option maxRecDepth 20000 in
set_option maxHeartbeats 1600000 in
theorem get0_c (g : Nat) (w : World) (kg : w.heap[g]? = some (.cells zb8 5 (0, 0))) : Calls Try.prog 51 #[.slice (some ⟨g, 0, none⟩) 8 8, .int .i64 8] w fun e w' => e = .returned (.tuple #[.int .u64 0, .int .i64 0]) ∧ Mod (fun _ => False) w w' := by
  unfold zb8 at kg
  go_enter Try.func51, Try.ntmps51
  go_wp2_with fail
  go_loopw [4, 20] (fun s4 s20 ws => ∃ i : Nat, i ≤ 8 ∧ s4 = .int .u64 0 ∧ s20 = .int .i64 (i : Int) ∧ Mod (fun _ => False) w ws) (fun _ s20 _ => 8 - (intOf s20).toNat)
  case atStart => exact ⟨0, by omega, rfl, rfl, Mod.refl _ _⟩
  case round =>
    obtain ⟨i, hi, rfl, rfl, hm⟩ := hrel
    have kg := hm.at0 kg
    by_cases hlt : i < 8
    · have hc : i = 0 ∨ i = 1 ∨ i = 2 ∨ i = 3 ∨ i = 4 ∨ i = 5 ∨ i = 6 ∨ i = 7 := by omega
      rcases hc with rfl | rfl | rfl | rfl | rfl | rfl | rfl | rfl
      all_goals
        go_wp2_with fail
        go_roundw
        case rel => first | exact ⟨1, by omega, rfl, by go_num, hm⟩ | exact ⟨2, by omega, rfl, by go_num, hm⟩ | exact ⟨3, by omega, rfl, by go_num, hm⟩ | exact ⟨4, by omega, rfl, by go_num, hm⟩ | exact ⟨5, by omega, rfl, by go_num, hm⟩ | exact ⟨6, by omega, rfl, by go_num, hm⟩ | exact ⟨7, by omega, rfl, by go_num, hm⟩ | exact ⟨8, by omega, rfl, by go_num, hm⟩
        case measure => simp [intOf]
    · obtain rfl : i = 8 := by omega
      go_wp2_with fail
      go_ret2
      exact ⟨rfl, hm⟩
set_option maxRecDepth 20000 in
theorem decode0_c (g : Nat) (w : World) (kg : w.heap[g]? = some (.cells zb8 5 (0, 0))) : Calls Try.prog 25 #[.slice (some ⟨g, 0, none⟩) 8 8] w fun e w' => e = .returned (.tuple #[.slice none 0 0, .int .i64 4]) ∧ Mod (fun _ => False) w w' := by
  go_enter Try.func25, Try.ntmps25
  go_wp2_with fail
  go_at_call 51
  refine (get0_c g _ kg).mono ?_
  rintro e w1 ⟨rfl, m1⟩
  go_wp2_with fail
  go_ret2
  exact ⟨rfl, m1⟩
theorem mkBytes (n : Nat) (hn : n ≤ 1000000) (w : World) : (Instr.makeSlice 45 (.int .i64 (n : Int)) (.int .i64 (n : Int))).run Try.prog w = .ok (.slice (some ⟨w.heap.size, 0, none⟩) n n) (w.alloc (.cells (List.replicate n (Value.int .u8 0)).toArray 5)) := by
  obtain ⟨i0, hi, hz0, hz1, hz2⟩ := info_parts (show (Try.prog.info? 5).map (fun i => (i.zero, i.size, i.bytes)) = some (some (.int .u8 0), 1, 1) by kernel_rfl)
  have := run_make (P := Try.prog) w 45 5 i0 _ Try.underlying45 hi hz0 .i64 .i64 (n : Int) (n : Int) (by omega) (by omega) (by rw [hz2]; omega) (by omega)
  rw [hz1, Nat.mul_one] at this
  have hc : madeCells #[Value.int .u8 0] n = (List.replicate n (Value.int .u8 0)).toArray := by
    apply Array.toList_inj.1
    rw [toList_madeCells_one]
  simpa [Value.cells, hc] using this
theorem mkB8 (w : World) : (Instr.makeSlice 45 (.int .i64 8) (.int .i64 8)).run Try.prog w = .ok (.slice (some ⟨w.heap.size, 0, none⟩) 8 8) (w.alloc (.cells zb8 5)) := mkBytes 8 (by omega) w
theorem bldTd0 (w : World) : (Instr.build 66 #[]).run Try.prog w = .ok (.agg (tdr td0)) w := by
  refine run_build_struct (z := .agg zTried) (places := #[(0, 48), (48, 6)]) Try.underlying66 (fun w => by kernel_rfl) (fun w => by kernel_rfl) ?_ w
  rfl
theorem bsTd (x : TdR) (w : World) : (Instr.buildSlice 30 1 #[(0, .agg (tdr x))]).run Try.prog w = .ok (.slice (some ⟨w.heap.size, 0, none⟩) 1 1) (w.alloc (.cells (tdr x) 66)) := by
  obtain ⟨i0, hi, hz0, hz1, hz2⟩ := info_parts (show (Try.prog.info? 66).map (fun i => (i.zero, i.size, i.bytes)) = some (some (.agg zTried), 54, 296) by kernel_rfl)
  refine run_buildSlice w _ _ 1 _ _ i0 _ Try.underlying30 hi hz0 (by rw [hz1]; omega) (by rw [hz1]; omega) ?_
  rw [hz1]
  show Instr.fill _ _ [(0, _)] = _
  rw [fill_cons (off := 0) (n := 54) rfl (by simp [Value.cells, tdr_size]) (by simp [Value.cells, zTried_size, size_madeCells])]
  show some (wr _ 0 (tdr x).toList) = _
  rw [wr_whole (tdr x) _ (by simp [Value.cells, zTried_size, tdr_size, size_madeCells])]
theorem bsEr (v : Nat) (w : World) : (Instr.buildSlice 41 1 #[(0, .int .i64 (v : Int))]).run Try.prog w = .ok (.slice (some ⟨w.heap.size, 0, none⟩) 1 1) (w.alloc (.cells (errC [v]) 62)) := by kernel_rfl
end Go.Proofs.Ytofpnmoeimjnnaa
namespace Go.Proofs.Ytofpnmoeimjnnaa
open Go.RowKit
open Go.ChangeMaps (setBlock)
set_option linter.unusedSimpArgs false
set_option linter.unusedVariables false
attribute [local go_sem ↓] wlKey ldKey stKey wlAcct ldAcct stAcct wlHold ldHold stHold wlHash ldHash stHash wlSig ldSig stSig wlLim ldLim stLim wlRdy ldRdy stRdy wlOut ldOut stOut wlTd ldTd stTd wlTx ldTx stTx eqKey1
attribute [local go_sem] eqMap neMap av_size av_all av_one hd_size hd_key hd_acct hd_all hd_one zKey_size zAcct_size zHold_size zHash_size zSg_size zLim_size zRdy_size zOut_size zTried_size zTx_size cell_blk frozen_blk kc_ext one_int one_bool one_ptr one_slice one_map kc_one kc_one0 kc_size sgc_size sgc_ext sgc_one0 sgc_one' rdr_size rdr_all rdr_one rdr_tx rdr_rec rdr0 rdr1 rdr41 rdr0' rdr1' rdr41' ocr_size ocr_all ocr_one ocr2 ocr3 ocr4 ocr5 ocr2' ocr3' ocr4' ocr5' tdr_size tdr_all tdr_one tdr_r tdr_o tdr_tx tdr_rec tdr0 tdr1 tdr41 tdr50 tdr51 tdr52 tdr53 tdr0' tdr1' tdr41' tdr50' tdr51' tdr52' tdr53' txr_size txr_all txr_one txr0 txr38 txr39 txr0' txr38' txr39' Value.cells
theorem td0_at {w : World} {g : Nat} {U : TypeId} {fr : Nat × Nat} (h : w.heap[g]? = some (.cells (tdr td0) U fr)) : SlAt tdr 54 w (some ⟨g, 0, none⟩) [td0] := SlAt.one h td0 rfl (tdr_size td0)
theorem errors1_c {a : Option Addr} {g v u : Nat} {w : World} (ha : SlAt ern 1 w a [v]) (hg : w.heap[g]? = some (.cells #[.int .i64 (u : Int)] 62 (0, 0))) : Calls Try.prog 14 #[.slice a 1 1, .slice (some ⟨g, 0, none⟩) 1 1] w fun e w' => e = .returned (.bool (decide (v = u))) ∧ Mod (fun _ => False) w w' := by
  refine (errors_c a (some ⟨g, 0, none⟩) [v] [u] 1 1 w ha (errC_at (l := [u]) hg) (by simp) (by simp)).mono ?_
  rintro e w' ⟨rfl, hm⟩
  exact ⟨by simp, hm⟩
theorem openL_c (s q n : Nat) (w : World) : Calls Try.prog 21 #[ptrV s, ptrV q, ptrV n, .agg #[.int .u64 1000, .int .u64 1000, .int .u64 1000]] w fun e w' => ∃ b t m, e = .returned (.tuple #[ptrV b, .int .i64 0]) ∧ w.heap.size ≤ b ∧ w.heap.size ≤ t ∧ w.heap.size ≤ m ∧ w'.heap[b]? = some (.cells (blkC s q n t false none 0 0 none 0 0 0) 80 (0, 0)) ∧ TrAt w' t m ⟨1000, 1000, 1000⟩ 0 0 [] ∧ Mod (fun _ => False) w w' := open_c s q n ⟨1000, 1000, 1000⟩ w
set_option maxRecDepth 20000 in
set_option maxHeartbeats 3200000 in
theorem lives_c (w : World) : Calls Try.prog 6 #[] w fun e w' => e = .returned (.bool true) ∧ Mod (fun _ => False) w w' := by
  go_enter Try.func6, Try.ntmps6
  go_wp2_with fail
  go_at_call 24
  refine (newS_c _).mono ?_
  rintro e w1 ⟨s, sb, rfl, -, -, -, m1⟩
  go_wp2_with fail
  go_at_call 22
  refine (newQ_c _).mono ?_
  rintro e w2 ⟨q, rfl, -, -, m2⟩
  have m2 := m1.trans m2
  clear m1
  go_wp2_with fail
  go_at_call 23
  refine (newN_c _).mono ?_
  rintro e w3 ⟨n, rfl, -, -, -, m3⟩
  have m3 := m2.trans m3
  clear m2
  go_wp2_with fail
  go_at_call 21
  refine (openL_c s q n _).mono ?_
  rintro e w4 ⟨b, t, m, rfl, hb, -, -, kb, -, m4⟩
  have hb0 := Nat.le_trans m3.size hb
  have m4 := m3.trans m4
  clear m3 hb
  go_wp2_with fail
  go_at_call 17
  refine (ended_c _ kb).mono ?_
  rintro e w5 ⟨rfl, m5⟩
  have kb := m5.at0 kb
  have m5 := m4.trans m5
  clear m4
  go_wp2_with fail
  go_at_call 16
  refine (end_c _ kb).mono ?_
  rintro e w6 ⟨rfl, kb, m6⟩
  have m6 := m5.thenB m6 (.inl hb0)
  clear m5
  go_wp2_with fail
  go_at_call 16
  refine (end2_c _ kb).mono ?_
  rintro e w7 ⟨rfl, m7⟩
  have kb := m7.at0 kb
  have m7 := m6.trans m7
  clear m6
  go_wp2_with fail
  go_at_call 17
  refine (ended_c _ kb).mono ?_
  rintro e w8 ⟨rfl, m8⟩
  have kb := m8.at0 kb
  have m8 := m7.trans m8
  clear m7
  have hmk := mkB8
  go_wp2_with fail
  go_at_call 25
  refine (decode0_c w8.heap.size _ (heap_alloc_new _ _)).mono ?_
  rintro e w9 ⟨rfl, m9⟩
  have m9 := (((Mod.refl (fun _ => False) w8).alloc (.cells zb8 5)).trans m9)
  have kb := m9.at0 kb
  have m9 := m8.trans m9
  clear m8 hmk
  have hbt := bldTd0
  have hbs := bsTd td0
  go_upto_region 5 with fail
  go_wp2_with fail
  go_at_call 8
  refine (recordE_c _ [td0] 1 _ (heap_alloc_old _ _ (lt_size kb) ▸ kb) (td0_at (heap_alloc_new _ _)) (by simp)).mono ?_
  rintro e w10 ⟨g, rfl, hg, hE, m10⟩
  have m10 := ((Mod.refl (fun _ => False) w9).alloc (.cells (tdr td0) 66)).trans m10
  have kb := m10.at0 kb
  have m10 := m9.trans m10
  clear m9 hbt hbs
  have hbe := bsEr 23
  go_wp2_with fail
  go_at_call 14
  refine (errors1_c (v := 23) (u := 23) (hE.mod0 ((Mod.refl _ _).alloc _)) (heap_alloc_new _ _)).mono ?_
  rintro e w11 ⟨rfl, m11⟩
  have m11 := ((Mod.refl (fun _ => False) w10).alloc (.cells #[Value.int IntKind.i64 23] 62)).trans m11
  have kb := m11.at0 kb
  have m11 := m10.trans m11
  clear m10 hbe hE
  go_wp2_with fail
  go_at_call 18
  refine (entries0_c _ kb).mono ?_
  rintro e w12 ⟨⟨a, c, rfl⟩, m12⟩
  have m12 := m11.trans m12
  go_wp2_with fail
  go_ret
  exact ⟨rfl, m12⟩
end Go.Proofs.Ytofpnmoeimjnnaa
namespace Go.Proofs.Ytofpnmoeimjnnaa
open Go.RowKit
open Go.ChangeMaps (setBlock)
set_option linter.unusedSimpArgs false
set_option linter.unusedVariables false
attribute [local go_sem ↓] wlKey ldKey stKey wlAcct ldAcct stAcct wlHold ldHold stHold wlHash ldHash stHash wlSig ldSig stSig wlLim ldLim stLim wlRdy ldRdy stRdy wlOut ldOut stOut wlTd ldTd stTd wlTx ldTx stTx eqKey1
attribute [local go_sem] eqMap neMap av_size av_all av_one hd_size hd_key hd_acct hd_all hd_one zKey_size zAcct_size zHold_size zHash_size zSg_size zLim_size zRdy_size zOut_size zTried_size zTx_size cell_blk frozen_blk kc_ext one_int one_bool one_ptr one_slice one_map kc_one kc_one0 kc_size sgc_size sgc_ext sgc_one0 sgc_one' rdr_size rdr_all rdr_one rdr_tx rdr_rec rdr0 rdr1 rdr41 rdr0' rdr1' rdr41' ocr_size ocr_all ocr_one ocr2 ocr3 ocr4 ocr5 ocr2' ocr3' ocr4' ocr5' tdr_size tdr_all tdr_one tdr_r tdr_o tdr_tx tdr_rec tdr0 tdr1 tdr41 tdr50 tdr51 tdr52 tdr53 tdr0' tdr1' tdr41' tdr50' tdr51' tdr52' tdr53' txr_size txr_all txr_one txr0 txr38 txr39 txr0' txr38' txr39' Value.cells
end Go.Proofs.Ytofpnmoeimjnnaa
