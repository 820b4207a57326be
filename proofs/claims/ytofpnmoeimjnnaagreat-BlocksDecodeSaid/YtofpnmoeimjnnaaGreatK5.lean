/- The lemmas of the proof, part 5: how the program and its data lie in memory, and what its functions do. -/
import Derived.Test.YtofpnmoeimjnnaaGreatK4
import Derived.Shelf.Abstract
import Derived.Lib.Hide
namespace Go.Proofs.YtofpnmoeimjnnaaGreat
open Go.RowKit
open Go.ChangeMaps (setBlock)
set_option linter.unusedSimpArgs false
set_option linter.unusedVariables false
attribute [local go_sem] cell_blk frozen_blk one_int one_bool one_ptr one_slice one_map Value.cells
attribute [local go_sem ↓] wlKey ldKey stKey wlMsg ldMsg stMsg wlTc ldTc stTc
attribute [local go_sem] kc_ext kc_one kc_one0 kc_size zKey_size one_slice mgx_size mgx_ext mgx_one mgx_one0 mg0 mg1 mg2 mg3 mg4 mg37 mg38 mg37' mg38'
theorem lits_u8S (b : UInt8) (d : Nat) : Tryz.prog.keyLits (d + 1) 5 [u8v b] = some [.int .u8 (b.toNat : Int)] := by
  unfold Program.keyLits
  rw [Tryz.underlying5]
  have h := b.toNat_lt
  have hw : (Lit.int .u8 (b.toNat : Int)).wf = true := by
    have hmin : IntKind.u8.min = 0 := rfl
    have hmax : IntKind.u8.max = 255 := rfl
    simp only [Lit.wf, Bool.and_eq_true, decide_eq_true_eq]
    omega
  simp [hw]
theorem u8_cellsS : Tryz.prog.cellsOf 5 = 1 := by kernel_rfl
theorem hdr_cellsS : Tryz.prog.cellsOf 36 = 3 := by kernel_rfl
theorem eqHdr1 (a b c : UInt8) (w : World) : (Op.equalIn 10000 36 (.agg #[u8v a, u8v b, u8v c]) (.agg #[u8v a, u8v b, u8v c])).run Tryz.prog w = .ok true w := by
  obtain ⟨lx, hx⟩ : ∃ l, Tryz.prog.keyLits 2 36 [u8v a, u8v b, u8v c] = some l := by
    unfold Program.keyLits
    rw [Tryz.underlying36]
    simp [hdr_cellsS, u8_cellsS, lits_u8S _ 0]
  have hat : Tryz.prog.keyTypeAt 2 36 = true := by kernel_rfl
  have hti : Tryz.prog.tiled 2 36 = true := by kernel_rfl
  have hf : (Value.agg #[u8v a, u8v b, u8v c]).formed Tryz.prog 36 = true := by
    simp [Value.formed, Tryz.underlying36, hdr_cellsS]
  obtain ⟨r, hr, hiff⟩ := run_equalIn_deep (P := Tryz.prog) 9998 2 36 hat w 2 2 _ _ lx lx hf hf hx hx
  rw [hr, hiff.2 rfl]
theorem hashIsS : IsKeyT Tryz.prog 39 5 where
  laid := laid
  row := of_decide_eq_true (by kernel_rfl)
  at2 := by kernel_rfl
  u := Tryz.underlying39
  e := Tryz.underlying5
  cK := by kernel_rfl
  cE := by kernel_rfl
  kt := by kernel_rfl
theorem eqHashS (a b : Key) (w : World) : (Op.equalIn 10000 39 (.agg (kc a)) (.agg (kc b))).run Tryz.prog w = .ok (decide (a = b)) w := hashIsS.eqIn 9998 a b w
theorem ldHdr (w : World) (b o : Nat) : (Instr.loadAt 36 (.pointer (some ⟨b, o, none⟩))).run Tryz.prog w =
      match w.heap[b]? with
      | some (.cells cs _ _) => if o + 3 ≤ cs.size then .ok (.agg (cs.extract o (o + 3))) w else farL Tryz.prog w 36 b o
      | _ => farL Tryz.prog w 36 b o := load_rule (d := _) Tryz.underlying36 rfl (by kernel_rfl) w b o
theorem stHdr (w : World) (b o : Nat) (xs : Array Value) : (Instr.storeAt 36 (.pointer (some ⟨b, o, none⟩)) (.agg xs)).run Tryz.prog w =
      match w.heap[b]? with
      | some (.cells cs U (0, 0)) =>
        if o + 3 ≤ cs.size ∧ xs.size = 3 ∧ xs.all (·.oneCell') = true then .ok () (setBlock w b (.cells (if o = 0 ∧ 3 = cs.size then xs else wr cs o xs.toList) U (0, 0))) else farS Tryz.prog w 36 b o (.agg xs)
      | _ => farS Tryz.prog w 36 b o (.agg xs) := store_rule (by kernel_rfl) w b o xs
theorem wlHdr (dst : Option Tmp) (x : Operand) (ty : TypeId) (pos : String) (after : Array Edge) (g : Option (Nat × Bool)) (a : Act) (w : World) (K : Act → World → Prop) (Q : Exit → Act → World → Prop) :
    Oper.wp Tryz.prog { dst := dst, op := .load 36 x, type := ty, pos := pos, after := after, guard := g } a w K Q =
      (match a.eval x with
      | .pointer (some ⟨b, o, none⟩) =>
        (match w.heap[b]? with
        | some (.cells cs _ _) => if o + 3 ≤ cs.size then K (a.put dst (.agg (cs.extract o (o + 3)))) w else farW Tryz.prog { dst := dst, op := .load 36 x, type := ty, pos := pos, after := after, guard := g } a w K Q
        | _ => farW Tryz.prog { dst := dst, op := .load 36 x, type := ty, pos := pos, after := after, guard := g } a w K Q)
      | _ => farW Tryz.prog { dst := dst, op := .load 36 x, type := ty, pos := pos, after := after, guard := g } a w K Q) := wp_load_rule (d := _) Tryz.underlying36 rfl (by kernel_rfl) dst x ty pos after g a w K Q
attribute [local go_sem ↓] wlHs ldHs stHs wlHdr ldHdr stHdr eqHashS eqHdr1 eqKey1
theorem mgx_hd (v0 : Bool) (h0 h1 h2 : UInt8) (ka : Option Addr) (kn kc' : Nat) (rc : Key) (ia : Option Addr) (n1 c1 : Nat) (la : Option Addr) (n2 c2 : Nat) : (mgx v0 h0 h1 h2 ka kn kc' rc ia n1 c1 la n2 c2).extract 1 4 = #[u8v h0, u8v h1, u8v h2] := by
  simp [mgx, mx]
theorem mgx_hs (v0 : Bool) (h0 h1 h2 : UInt8) (ka : Option Addr) (kn kc' : Nat) (rc : Key) (ia : Option Addr) (n1 c1 : Nat) (la : Option Addr) (n2 c2 : Nat) : (mgx v0 h0 h1 h2 ka kn kc' rc ia n1 c1 la n2 c2).extract 5 37 = kc rc := by
  have := part_of (pre := [Value.bool v0, u8v h0, u8v h1, u8v h2, .slice ka kn kc']) (mid := rc.l.map bc) (post := [.slice ia n1 c1, .slice la n2 c2]) (a := 5) (b := 37) rfl (by simp [rc.h])
  simpa [mgx, mx, kc] using this
theorem mg0' {v0 : Bool} {h0 h1 h2 : UInt8} {ka : Option Addr} {kn kc' : Nat} {rc : Key} {ia : Option Addr} {n1 c1 : Nat} {la : Option Addr} {n2 c2 : Nat} (h : 0 < (mgx v0 h0 h1 h2 ka kn kc' rc ia n1 c1 la n2 c2).size) : (mgx v0 h0 h1 h2 ka kn kc' rc ia n1 c1 la n2 c2)[0] = .bool v0 := at_get (mg0 ..) h
theorem mg4' {v0 : Bool} {h0 h1 h2 : UInt8} {ka : Option Addr} {kn kc' : Nat} {rc : Key} {ia : Option Addr} {n1 c1 : Nat} {la : Option Addr} {n2 c2 : Nat} (h : 4 < (mgx v0 h0 h1 h2 ka kn kc' rc ia n1 c1 la n2 c2).size) : (mgx v0 h0 h1 h2 ka kn kc' rc ia n1 c1 la n2 c2)[4] = .slice ka kn kc' := at_get (mg4 ..) h
attribute [local go_sem] mgx_hd mgx_hs mg0' mg4'
def MsgRd (w : World) (r : RdR) : Prop := (SlAt kc 32 w r.ks.a r.ks.l ∧ r.ks.l.length ≤ 1000000) ∧ (SlAt inr 3 w r.ins.a r.ins.l ∧ r.ins.l.length ≤ 1000000 ∧ ∀ i ∈ r.ins.l, (SlAt uc 1 w i.a.a i.a.l ∧ i.a.l.length ≤ 1000000) ∧ (SlAt uc 1 w i.d.a i.d.l ∧ i.d.l.length ≤ 1000000)) ∧
  (SlAt lor 34 w r.lks.a r.lks.l ∧ r.lks.l.length ≤ 1000000 ∧ ∀ i ∈ r.lks.l, (SlAt uc 1 w i.w.a i.w.l ∧ i.w.l.length ≤ 1000000) ∧ (SlAt uc 1 w i.r.a i.r.l ∧ i.r.l.length ≤ 1000000))
theorem MsgRd.mod0 {w w' : World} {r : RdR} (h : MsgRd w r) (hm : Mod (fun _ => False) w w') : MsgRd w' r :=
  ⟨⟨h.1.1.mod0 hm, h.1.2⟩, ⟨h.2.1.1.mod0 hm, h.2.1.2.1, fun i hi => ⟨⟨(h.2.1.2.2 i hi).1.1.mod0 hm, (h.2.1.2.2 i hi).1.2⟩, ⟨(h.2.1.2.2 i hi).2.1.mod0 hm, (h.2.1.2.2 i hi).2.2⟩⟩⟩,
    h.2.2.1.mod0 hm, h.2.2.2.1, fun i hi => ⟨⟨(h.2.2.2.2 i hi).1.1.mod0 hm, (h.2.2.2.2 i hi).1.2⟩, ⟨(h.2.2.2.2 i hi).2.1.mod0 hm, (h.2.2.2.2 i hi).2.2⟩⟩⟩
def TxRd (w : World) (r : RdR) : Prop := (SlAt sgc 64 w r.sg.a r.sg.l ∧ r.sg.l.length ≤ 1000000) ∧ MsgRd w r
theorem TxRd.mod0 {w w' : World} {r : RdR} (h : TxRd w r) (hm : Mod (fun _ => False) w w') : TxRd w' r := ⟨⟨h.1.1.mod0 hm, h.1.2⟩, h.2.mod0 hm⟩
theorem in_partsS {w : World} {a : Option Addr} {l : List InR} (h : SlAt inr 3 w a l) {i : Nat} {x : InR} (hx : l[i]? = some x) : ∃ g o C U fr, a = some ⟨g, o, none⟩ ∧ w.heap[g]? = some (.cells C U fr) ∧ C[o + i * 3]? = some (u8v x.p) ∧ C[o + i * 3 + 1]? = some (.slice x.a.a x.a.l.length x.a.c) ∧ C[o + i * 3 + 2]? = some (.slice x.d.a x.d.l.length x.d.c) := by
  obtain ⟨g, o, C, U, fr, rfl, hk, he, _⟩ := h.block hx
  exact ⟨g, o, C, U, fr, rfl, hk, cellC he (j := 0) rfl, cellC he (j := 1) rfl, cellC he (j := 2) rfl⟩
theorem lo_partsS {w : World} {a : Option Addr} {l : List LoR} (h : SlAt lor 34 w a l) {i : Nat} {x : LoR} (hx : l[i]? = some x) : ∃ g o C U fr, a = some ⟨g, o, none⟩ ∧ w.heap[g]? = some (.cells C U fr) ∧ C.extract (o + i * 34) (o + i * 34 + 32) = kc x.t ∧ o + i * 34 + 32 ≤ C.size ∧ C[o + i * 34 + 32]? = some (.slice x.w.a x.w.l.length x.w.c) ∧ C[o + i * 34 + 33]? = some (.slice x.r.a x.r.l.length x.r.c) := by
  obtain ⟨g, o, C, U, fr, rfl, hk, he, hle⟩ := h.block hx
  refine ⟨g, o, C, U, fr, rfl, hk, ?_, by omega, cellC he (j := 32) (kx_get _ _ 0), cellC he (j := 33) (kx_get _ _ 1)⟩
  have h1 : (lor x).extract 0 32 = kc x.t := kx_key _ _
  rw [← h1, ← he, Array.extract_extract]
  congr 1
  omega
set_option maxRecDepth 20000 in
set_option maxHeartbeats 6400000 in
theorem sameMsg_c (x y : RdR) (w : World) (hx : MsgRd w x) (hy : MsgRd w y) (hxy : msgP x = msgP y) : Calls Tryz.prog 34 #[.agg (msr x), .agg (msr y)] w fun e w' => e = .returned (.bool true) ∧ Mod (fun _ => False) w w' := by
  have HX := Lib.hid hx
  have HY := Lib.hid hy
  obtain ⟨bx, sgx, v0, h0, h1, h2, ks, rc, ins, lks, rox, ux, px, badx, fx, cx, qx⟩ := x
  obtain ⟨by', sgy, v0', h0', h1', h2', ks', rc', ins', lks', roy, uy, py, bady, fy, cy, qy⟩ := y
  simp only [msgP, MsP.mk.injEq] at hxy
  obtain ⟨rfl, rfl, rfl, rfl, hks, rfl, hin, hlk⟩ := hxy
  obtain ⟨ka, K, kcap⟩ := ks
  obtain ⟨ka', K', kcap'⟩ := ks'
  obtain ⟨ia, I, ic⟩ := ins
  obtain ⟨ia', I', ic'⟩ := ins'
  obtain ⟨la, L, lc⟩ := lks
  obtain ⟨la', L', lc'⟩ := lks'
  simp only at hks hin hlk
  subst hks
  have hnI : I'.length = I.length := by have := congrArg List.length hin; simpa using this.symm
  have hnL : L'.length = L.length := by have := congrArg List.length hlk; simpa using this.symm
  obtain ⟨nK, hnK⟩ : ∃ n, K.length = n := ⟨_, rfl⟩
  obtain ⟨nI, hI⟩ : ∃ n, I.length = n := ⟨_, rfl⟩
  obtain ⟨nL, hL⟩ : ∃ n, L.length = n := ⟨_, rfl⟩
  rw [hI] at hnI
  rw [hL] at hnL
  show Calls Tryz.prog 34 #[.agg (mgx v0 h0 h1 h2 ka K.length kcap rc ia I.length ic la L.length lc), .agg (mgx v0 h0 h1 h2 ka' K.length kcap' rc ia' I'.length ic' la' L'.length lc')] w _
  rw [hnK, hI, hL, hnI, hnL]
  have HN := Lib.hid (And.intro hnK (And.intro hI (And.intro hL (And.intro hnI (And.intro hnL (And.intro hin hlk))))))
  have hb1 : nI ≤ 1000000 := by rw [← hI]; exact HX.out.2.1.2.1
  have hb2 : nL ≤ 1000000 := by rw [← hL]; exact HX.out.2.2.2.1
  clear hx hy hnK hI hL hnI hnL hin hlk
  go_enter Tryz.func34, Tryz.ntmps34
  go_upto_region 0 with fail
  refine wp_pass0 (C := fun _ _ _ => False) (κ := fun i => [3, 3, 0].getD i 0) [0, 1, 2] (by kernel_rfl) (by kernel_rfl) (fun _ _ d _ _ h => by cases d <;> first | exact h | exact absurd h (hP _ _ _)) ?_
  (refine TD.box (v := ?v1) (by simp only [zA, zB, zC]; rfl) rfl ?hw1 rfl rfl ?hx1 (fun p2 hp2 => ?hn1); (case hw1 => rfl); (case hx1 => (simp only [Act.eval, zD, zA, zB, zC, zE]; (try rfl))); (try simp only [Act.put, zF, zG, zH]))
  (refine TD.box (v := ?v2) (by simp only [zA, zB, zC]; rfl) rfl ?hw2 rfl rfl ?hx2 (fun p3 hp3 => ?hn2); (case hw2 => rfl); (case hx2 => (simp only [Act.eval, zD, zA, zB, zC, zE]; (try rfl))); (try simp only [Act.put, zF, zG, zH]))
  obtain ⟨ne_p3_p2, hp3⟩ := Bx.set_none hp3
  (refine TD.val0 (v := ?v3) (by simp only [zA, zB, zC]; rfl) rfl ?hw3 (fun w1 => ?hy3) ?hn3; (case hw3 => rfl); (case hy3 => (go_simp; (try with_reducible rfl))); (try simp only [Act.put, zF, zG, zH]))
  refine TD.nil (fun w1 hr => ?_)
  have kp2 := hr.box p2 _ (by first | exact Bx.set_same _ _ _ | (simp only [Bx.set_ne _ (Ne.symm ne_p3_p2), Bx.set_ne _ ne_p3_p2, Bx.set_same]; rfl)); dsimp only [Value.cells] at kp2; obtain ⟨gp2, kp2⟩ := kp2
  have kp3 := hr.box p3 _ (by first | exact Bx.set_same _ _ _ | (simp only [Bx.set_ne _ (Ne.symm ne_p3_p2), Bx.set_ne _ ne_p3_p2, Bx.set_same]; rfl)); dsimp only [Value.cells] at kp3; obtain ⟨gp3, kp3⟩ := kp3
  have m1 := hr.mod
  clear hr
  have HSK := Lib.hid (sameK_c ka ka' K K kcap kcap' w1 (HX.out.1.1.mod0 m1) (HY.out.1.1.mod0 m1) HX.out.1.2)
  have hsk := HSK.out
  simp only [HN.out.1] at hsk
  have HSK2 := Lib.hid hsk
  have HM1 := Lib.hid m1
  clear hsk HSK m1
  go_wp2_with fail
  go_at_call 64
  refine HSK2.out.mono ?_
  rintro e w2 ⟨rfl, m2⟩
  replace kp2 := m2.at0 kp2
  replace kp3 := m2.at0 kp3
  have HM2 := Lib.hid (HM1.out.trans m2)
  clear m2 HM1 HSK2
  go_wp2_with fail
  go_loopw [5] (fun s5 ws => ∃ i : Nat, i ≤ nI ∧ s5 = .int .i64 (i : Int) ∧ Hid (Mod (fun _ => False) w ws) ∧ ws.heap[p2]? = some (.cells (mgx v0 h0 h1 h2 ka nK kcap rc ia nI ic la nL lc) 43 (0, 0)) ∧ ws.heap[p3]? = some (.cells (mgx v0 h0 h1 h2 ka' nK kcap' rc ia' nI ic' la' nL lc') 43 (0, 0))) (fun s5 _ => nI - (intOf s5).toNat)
  case atStart => exact ⟨0, by omega, rfl, HM2, kp2, kp3⟩
  case round =>
    obtain ⟨i, hi, rfl, HM, kp2, kp3⟩ := hrel
    by_cases hlt : i < nI
    · --{
      have hd := decide_eq_true hlt
      obtain ⟨x, hx⟩ : ∃ x, I[i]? = some x := ⟨_, List.getElem?_eq_getElem (by have := HN.out.2.1; omega)⟩
      obtain ⟨y, hy⟩ : ∃ y, I'[i]? = some y := ⟨_, List.getElem?_eq_getElem (by have := HN.out.2.2.2.1; omega)⟩
      have hxy : inP x = inP y := by
        have h1 := congrArg (fun z => z[i]?) HN.out.2.2.2.2.2.1
        simp only [List.getElem?_map, hx, hy, Option.map_some] at h1
        exact Option.some.inj h1
      have hX := (HX.out.mod0 HM.out).2.1.2.2 x (List.mem_of_getElem? hx)
      have hY := (HY.out.mod0 HM.out).2.1.2.2 y (List.mem_of_getElem? hy)
      obtain ⟨g, o, C, U, fr, hga, kg, c0, c1, c2⟩ := in_partsS (HX.out.mod0 HM.out).2.1.1 hx
      obtain ⟨g', o', C', U', fr', hga', kg', c0', c1', c2'⟩ := in_partsS (HY.out.mod0 HM.out).2.1.1 hy
      simp only at hga hga'
      subst hga
      subst hga'
      obtain ⟨px, ⟨ax, lx, cx⟩, ⟨dx, mx', ex⟩⟩ := x
      obtain ⟨py, ⟨ay, ly, cy⟩, ⟨dy, my, ey⟩⟩ := y
      simp only [inP, InP.mk.injEq] at hxy
      obtain ⟨rfl, rfl, rfl⟩ := hxy
      simp only at c0 c1 c2 c0' c1' c2' hX hY
      have HX2 := Lib.hid hX
      have HY2 := Lib.hid hY
      clear hx hy hX hY
      go_upto_region 6 with fail
      have Lkp2 := lt_size kp2
      have Lkp3 := lt_size kp3
      have Lkg := lt_size kg
      have Lkg' := lt_size kg'
      refine wp_gpass (T0 := fun _ => False) (K := fun _ _ => True) (κ := fun i => [0, 0, 0, 0, 0, 0, 0, 0, 0, 0, 0, 0, 0, 0, 0, 0, 0, 0, 0, 0, 0, 0, 0, 0, 0, 0, 6, 0, 0, 0, 0, 0, 0, 0, 0, 0, 0, 0, 0, 0, 0, 0, 6, 0, 0].getD i 0) (υ := fun i => [[], [], [], [], [], [], [], [], [], [], [], [], [], [], [], [], [], [], [], [], [], [], [], [], [], [], [], [], [], [], [], [], [], [], [], [], [], [], [], [], [], [], [], [], []].getD i []) [0, 1, 2, 3, 4, 5, 6, 7, 8, 9, 10, 11, 12, 13, 14, 15, 16, 17, 18, 19, 20, 21, 22, 23, 24, 25, 26, 27, 28, 29, 30, 31, 32, 33, 34, 35, 36, 37, 38, 39, 40, 41, 42, 43, 44] (by kernel_rfl) (by kernel_rfl) (Good.true).cl (trivial) (fun _ h => h.elim) ?_
      have gK := Good.true
      (refine TG.v0 (v := ?v4) (by simp only [zA, zB, zC]; rfl) rfl ?hw4 (fun w1 => ?hy4) ?hn4; (case hw4 => rfl); (case hy4 => (go_simp; (try with_reducible rfl))); (try simp only [Act.put, zF, zG, zH]))
      (refine TG.load (v := ?v5) (p := ?p5) (by simp only [zA, zB, zC]; rfl) rfl ?hw5 rfl ?hx5 (fun wq hSq => ?hy5) ?hn5; (case hw5 => rfl); (case hx5 => (simp only [Act.eval, zD, zA, zB, zC, zE]; (try rfl))); (case hy5 => (have kp2q := hSq.at kp2 (by intro hT; first | exact hT | exact absurd hT (by assumption) | omega | (simp only at hT; omega)); have kp3q := hSq.at kp3 (by intro hT; first | exact hT | exact absurd hT (by assumption) | omega | (simp only at hT; omega)); have kgq := hSq.at kg (by intro hT; first | exact hT | exact absurd hT (by assumption) | omega | (simp only at hT; omega)); have kg'q := hSq.at kg' (by intro hT; first | exact hT | exact absurd hT (by assumption) | omega | (simp only at hT; omega)); go_simp; (try with_reducible rfl))); (try simp only [Act.put, zF, zG, zH]))
      (refine TG.v0 (v := ?v6) (by simp only [zA, zB, zC]; rfl) rfl ?hw6 (fun w1 => ?hy6) ?hn6; (case hw6 => rfl); (case hy6 => (go_simp; (try with_reducible rfl))); (try simp only [Act.put, zF, zG, zH]))
      (refine TG.v0 (v := ?v7) (by simp only [zA, zB, zC]; rfl) rfl ?hw7 (fun w1 => ?hy7) ?hn7; (case hw7 => rfl); (case hy7 => (go_simp; (try with_reducible rfl))); (try simp only [Act.put, zF, zG, zH]))
      (refine TG.v0 (v := ?v8) (by simp only [zA, zB, zC]; rfl) rfl ?hw8 (fun w1 => ?hy8) ?hn8; (case hw8 => rfl); (case hy8 => (go_simp; (try with_reducible rfl))); (try simp only [Act.put, zF, zG, zH]))
      (refine TG.load (v := ?v9) (p := ?p9) (by simp only [zA, zB, zC]; rfl) rfl ?hw9 rfl ?hx9 (fun wq hSq => ?hy9) ?hn9; (case hw9 => rfl); (case hx9 => (simp only [Act.eval, zD, zA, zB, zC, zE]; (try rfl))); (case hy9 => (have kp2q := hSq.at kp2 (by intro hT; first | exact hT | exact absurd hT (by assumption) | omega | (simp only at hT; omega)); have kp3q := hSq.at kp3 (by intro hT; first | exact hT | exact absurd hT (by assumption) | omega | (simp only at hT; omega)); have kgq := hSq.at kg (by intro hT; first | exact hT | exact absurd hT (by assumption) | omega | (simp only at hT; omega)); have kg'q := hSq.at kg' (by intro hT; first | exact hT | exact absurd hT (by assumption) | omega | (simp only at hT; omega)); go_simp; (try with_reducible rfl))); (try simp only [Act.put, zF, zG, zH]))
      (refine TG.v0 (v := ?v10) (by simp only [zA, zB, zC]; rfl) rfl ?hw10 (fun w1 => ?hy10) ?hn10; (case hw10 => rfl); (case hy10 => (go_simp; (try with_reducible rfl))); (try simp only [Act.put, zF, zG, zH]))
      (refine TG.load (v := ?v11) (p := ?p11) (by simp only [zA, zB, zC]; rfl) rfl ?hw11 rfl ?hx11 (fun wq hSq => ?hy11) ?hn11; (case hw11 => rfl); (case hx11 => (simp only [Act.eval, zD, zA, zB, zC, zE]; (try rfl))); (case hy11 => (have kp2q := hSq.at kp2 (by intro hT; first | exact hT | exact absurd hT (by assumption) | omega | (simp only at hT; omega)); have kp3q := hSq.at kp3 (by intro hT; first | exact hT | exact absurd hT (by assumption) | omega | (simp only at hT; omega)); have kgq := hSq.at kg (by intro hT; first | exact hT | exact absurd hT (by assumption) | omega | (simp only at hT; omega)); have kg'q := hSq.at kg' (by intro hT; first | exact hT | exact absurd hT (by assumption) | omega | (simp only at hT; omega)); go_simp; (try with_reducible rfl))); (try simp only [Act.put, zF, zG, zH]))
      (refine TG.v0 (v := ?v12) (by simp only [zA, zB, zC]; rfl) rfl ?hw12 (fun w1 => ?hy12) ?hn12; (case hw12 => rfl); (case hy12 => (go_simp; (try with_reducible rfl))); (try simp only [Act.put, zF, zG, zH]))
      (refine TG.v0 (v := ?v13) (by simp only [zA, zB, zC]; rfl) rfl ?hw13 (fun w1 => ?hy13) ?hn13; (case hw13 => rfl); (case hy13 => (go_simp; (try with_reducible rfl))); (try simp only [Act.put, zF, zG, zH]))
      (refine TG.v0 (v := ?v14) (by simp only [zA, zB, zC]; rfl) rfl ?hw14 (fun w1 => ?hy14) ?hn14; (case hw14 => rfl); (case hy14 => (go_simp; (try with_reducible rfl))); (try simp only [Act.put, zF, zG, zH]))
      (refine TG.load (v := ?v15) (p := ?p15) (by simp only [zA, zB, zC]; rfl) rfl ?hw15 rfl ?hx15 (fun wq hSq => ?hy15) ?hn15; (case hw15 => rfl); (case hx15 => (simp only [Act.eval, zD, zA, zB, zC, zE]; (try rfl))); (case hy15 => (have kp2q := hSq.at kp2 (by intro hT; first | exact hT | exact absurd hT (by assumption) | omega | (simp only at hT; omega)); have kp3q := hSq.at kp3 (by intro hT; first | exact hT | exact absurd hT (by assumption) | omega | (simp only at hT; omega)); have kgq := hSq.at kg (by intro hT; first | exact hT | exact absurd hT (by assumption) | omega | (simp only at hT; omega)); have kg'q := hSq.at kg' (by intro hT; first | exact hT | exact absurd hT (by assumption) | omega | (simp only at hT; omega)); go_simp; (try with_reducible rfl))); (try simp only [Act.put, zF, zG, zH]))
      (refine TG.v0 (v := ?v16) (by simp only [zA, zB, zC]; rfl) rfl ?hw16 (fun w1 => ?hy16) ?hn16; (case hw16 => rfl); (case hy16 => (go_simp; (try with_reducible rfl))); (try simp only [Act.put, zF, zG, zH]))
      (refine TG.v0 (v := ?v17) (by simp only [zA, zB, zC]; rfl) rfl ?hw17 (fun w1 => ?hy17) ?hn17; (case hw17 => rfl); (case hy17 => (go_simp; (try with_reducible rfl))); (try simp only [Act.put, zF, zG, zH]))
      (refine TG.v0 (v := ?v18) (by simp only [zA, zB, zC]; rfl) rfl ?hw18 (fun w1 => ?hy18) ?hn18; (case hw18 => rfl); (case hy18 => (go_simp; (try with_reducible rfl))); (try simp only [Act.put, zF, zG, zH]))
      (refine TG.load (v := ?v19) (p := ?p19) (by simp only [zA, zB, zC]; rfl) rfl ?hw19 rfl ?hx19 (fun wq hSq => ?hy19) ?hn19; (case hw19 => rfl); (case hx19 => (simp only [Act.eval, zD, zA, zB, zC, zE]; (try rfl))); (case hy19 => (have kp2q := hSq.at kp2 (by intro hT; first | exact hT | exact absurd hT (by assumption) | omega | (simp only at hT; omega)); have kp3q := hSq.at kp3 (by intro hT; first | exact hT | exact absurd hT (by assumption) | omega | (simp only at hT; omega)); have kgq := hSq.at kg (by intro hT; first | exact hT | exact absurd hT (by assumption) | omega | (simp only at hT; omega)); have kg'q := hSq.at kg' (by intro hT; first | exact hT | exact absurd hT (by assumption) | omega | (simp only at hT; omega)); go_simp; (try with_reducible rfl))); (try simp only [Act.put, zF, zG, zH]))
      (refine TG.v0 (v := ?v20) (by simp only [zA, zB, zC]; rfl) rfl ?hw20 (fun w1 => ?hy20) ?hn20; (case hw20 => rfl); (case hy20 => (go_simp; (try with_reducible rfl))); (try simp only [Act.put, zF, zG, zH]))
      (refine TG.v0 (v := ?v21) (by simp only [zA, zB, zC]; rfl) rfl ?hw21 (fun w1 => ?hy21) ?hn21; (case hw21 => rfl); (case hy21 => (go_simp; (try with_reducible rfl))); (try simp only [Act.put, zF, zG, zH]))
      (refine TG.v0 (v := ?v22) (by simp only [zA, zB, zC]; rfl) rfl ?hw22 (fun w1 => ?hy22) ?hn22; (case hw22 => rfl); (case hy22 => (go_simp; (try with_reducible rfl))); (try simp only [Act.put, zF, zG, zH]))
      (refine TG.load (v := ?v23) (p := ?p23) (by simp only [zA, zB, zC]; rfl) rfl ?hw23 rfl ?hx23 (fun wq hSq => ?hy23) ?hn23; (case hw23 => rfl); (case hx23 => (simp only [Act.eval, zD, zA, zB, zC, zE]; (try rfl))); (case hy23 => (have kp2q := hSq.at kp2 (by intro hT; first | exact hT | exact absurd hT (by assumption) | omega | (simp only at hT; omega)); have kp3q := hSq.at kp3 (by intro hT; first | exact hT | exact absurd hT (by assumption) | omega | (simp only at hT; omega)); have kgq := hSq.at kg (by intro hT; first | exact hT | exact absurd hT (by assumption) | omega | (simp only at hT; omega)); have kg'q := hSq.at kg' (by intro hT; first | exact hT | exact absurd hT (by assumption) | omega | (simp only at hT; omega)); go_simp; (try with_reducible rfl))); (try simp only [Act.put, zF, zG, zH]))
      (refine TG.v0 (v := ?v24) (by simp only [zA, zB, zC]; rfl) rfl ?hw24 (fun w1 => ?hy24) ?hn24; (case hw24 => rfl); (case hy24 => (go_simp; (try with_reducible rfl))); (try simp only [Act.put, zF, zG, zH]))
      (refine TG.load (v := ?v25) (p := ?p25) (by simp only [zA, zB, zC]; rfl) rfl ?hw25 rfl ?hx25 (fun wq hSq => ?hy25) ?hn25; (case hw25 => rfl); (case hx25 => (simp only [Act.eval, zD, zA, zB, zC, zE]; (try rfl))); (case hy25 => (have kp2q := hSq.at kp2 (by intro hT; first | exact hT | exact absurd hT (by assumption) | omega | (simp only at hT; omega)); have kp3q := hSq.at kp3 (by intro hT; first | exact hT | exact absurd hT (by assumption) | omega | (simp only at hT; omega)); have kgq := hSq.at kg (by intro hT; first | exact hT | exact absurd hT (by assumption) | omega | (simp only at hT; omega)); have kg'q := hSq.at kg' (by intro hT; first | exact hT | exact absurd hT (by assumption) | omega | (simp only at hT; omega)); go_simp; (try with_reducible rfl))); (try simp only [Act.put, zF, zG, zH]))
      (refine TG.v0 (v := ?v26) (by simp only [zA, zB, zC]; rfl) rfl ?hw26 (fun w1 => ?hy26) ?hn26; (case hw26 => rfl); (case hy26 => (go_simp; (try with_reducible rfl))); (try simp only [Act.put, zF, zG, zH]))
      (refine TG.v0 (v := ?v27) (by simp only [zA, zB, zC]; rfl) rfl ?hw27 (fun w1 => ?hy27) ?hn27; (case hw27 => rfl); (case hy27 => (go_simp; (try with_reducible rfl))); (try simp only [Act.put, zF, zG, zH]))
      (refine TG.v0 (v := ?v28) (by simp only [zA, zB, zC]; rfl) rfl ?hw28 (fun w1 => ?hy28) ?hn28; (case hw28 => rfl); (case hy28 => (go_simp; (try with_reducible rfl))); (try simp only [Act.put, zF, zG, zH]))
      (refine TG.load (v := ?v29) (p := ?p29) (by simp only [zA, zB, zC]; rfl) rfl ?hw29 rfl ?hx29 (fun wq hSq => ?hy29) ?hn29; (case hw29 => rfl); (case hx29 => (simp only [Act.eval, zD, zA, zB, zC, zE]; (try rfl))); (case hy29 => (have kp2q := hSq.at kp2 (by intro hT; first | exact hT | exact absurd hT (by assumption) | omega | (simp only at hT; omega)); have kp3q := hSq.at kp3 (by intro hT; first | exact hT | exact absurd hT (by assumption) | omega | (simp only at hT; omega)); have kgq := hSq.at kg (by intro hT; first | exact hT | exact absurd hT (by assumption) | omega | (simp only at hT; omega)); have kg'q := hSq.at kg' (by intro hT; first | exact hT | exact absurd hT (by assumption) | omega | (simp only at hT; omega)); go_simp; (try with_reducible rfl))); (try simp only [Act.put, zF, zG, zH]))
      (refine TG.callN (f := ?f30) (args := ?r30) (fun v => v = .bool true) gK (by simp only [zA, zB, zC]; rfl) rfl ?hw30 (fun w1 => ?hy30) (fun T wq kq ltq hSq ub => ?hsp30) ?hn30; (case hw30 => rfl); (case hy30 => (go_simp; (first | with_reducible rfl | (constructor <;> with_reducible rfl)))); (case hsp30 => (have kp2q := hSq.at kp2 (by intro hT; first | exact hT | exact absurd hT (by assumption) | omega | (simp only at hT; omega)); have kp3q := hSq.at kp3 (by intro hT; first | exact hT | exact absurd hT (by assumption) | omega | (simp only at hT; omega)); have kgq := hSq.at kg (by intro hT; first | exact hT | exact absurd hT (by assumption) | omega | (simp only at hT; omega)); have kg'q := hSq.at kg' (by intro hT; first | exact hT | exact absurd hT (by assumption) | omega | (simp only at hT; omega)); exact (sameB_c _ _ _ _ _ _ wq (HX2.out.1.1.mod0 hSq) (HY2.out.1.1.mod0 hSq) HX2.out.1.2).mono (fun e w' h => ⟨_, h.1, by simp, h.2⟩))); rintro v30 hC; subst hC; (try simp only [Act.put, zF, zG, zH]))
      (refine TG.v0 (v := ?v31) (by simp only [zA, zB, zC]; rfl) rfl ?hw31 (fun w1 => ?hy31) ?hn31; (case hw31 => rfl); (case hy31 => (go_simp; (try with_reducible rfl))); (try simp only [Act.put, zF, zG, zH]))
      (refine TG.v0 (v := ?v32) (by simp only [zA, zB, zC]; rfl) rfl ?hw32 (fun w1 => ?hy32) ?hn32; (case hw32 => rfl); (case hy32 => (go_simp; (try with_reducible rfl))); (try simp only [Act.put, zF, zG, zH]))
      (refine TG.v0 (v := ?v33) (by simp only [zA, zB, zC]; rfl) rfl ?hw33 (fun w1 => ?hy33) ?hn33; (case hw33 => rfl); (case hy33 => (go_simp; (try with_reducible rfl))); (try simp only [Act.put, zF, zG, zH]))
      (refine TG.v0 (v := ?v34) (by simp only [zA, zB, zC]; rfl) rfl ?hw34 (fun w1 => ?hy34) ?hn34; (case hw34 => rfl); (case hy34 => (go_simp; (try with_reducible rfl))); (try simp only [Act.put, zF, zG, zH]))
      (refine TG.load (v := ?v35) (p := ?p35) (by simp only [zA, zB, zC]; rfl) rfl ?hw35 rfl ?hx35 (fun wq hSq => ?hy35) ?hn35; (case hw35 => rfl); (case hx35 => (simp only [Act.eval, zD, zA, zB, zC, zE]; (try rfl))); (case hy35 => (have kp2q := hSq.at kp2 (by intro hT; first | exact hT | exact absurd hT (by assumption) | omega | (simp only at hT; omega)); have kp3q := hSq.at kp3 (by intro hT; first | exact hT | exact absurd hT (by assumption) | omega | (simp only at hT; omega)); have kgq := hSq.at kg (by intro hT; first | exact hT | exact absurd hT (by assumption) | omega | (simp only at hT; omega)); have kg'q := hSq.at kg' (by intro hT; first | exact hT | exact absurd hT (by assumption) | omega | (simp only at hT; omega)); go_simp; (try with_reducible rfl))); (try simp only [Act.put, zF, zG, zH]))
      (refine TG.v0 (v := ?v36) (by simp only [zA, zB, zC]; rfl) rfl ?hw36 (fun w1 => ?hy36) ?hn36; (case hw36 => rfl); (case hy36 => (go_simp; (try with_reducible rfl))); (try simp only [Act.put, zF, zG, zH]))
      (refine TG.v0 (v := ?v37) (by simp only [zA, zB, zC]; rfl) rfl ?hw37 (fun w1 => ?hy37) ?hn37; (case hw37 => rfl); (case hy37 => (go_simp; (try with_reducible rfl))); (try simp only [Act.put, zF, zG, zH]))
      (refine TG.v0 (v := ?v38) (by simp only [zA, zB, zC]; rfl) rfl ?hw38 (fun w1 => ?hy38) ?hn38; (case hw38 => rfl); (case hy38 => (go_simp; (try with_reducible rfl))); (try simp only [Act.put, zF, zG, zH]))
      (refine TG.load (v := ?v39) (p := ?p39) (by simp only [zA, zB, zC]; rfl) rfl ?hw39 rfl ?hx39 (fun wq hSq => ?hy39) ?hn39; (case hw39 => rfl); (case hx39 => (simp only [Act.eval, zD, zA, zB, zC, zE]; (try rfl))); (case hy39 => (have kp2q := hSq.at kp2 (by intro hT; first | exact hT | exact absurd hT (by assumption) | omega | (simp only at hT; omega)); have kp3q := hSq.at kp3 (by intro hT; first | exact hT | exact absurd hT (by assumption) | omega | (simp only at hT; omega)); have kgq := hSq.at kg (by intro hT; first | exact hT | exact absurd hT (by assumption) | omega | (simp only at hT; omega)); have kg'q := hSq.at kg' (by intro hT; first | exact hT | exact absurd hT (by assumption) | omega | (simp only at hT; omega)); go_simp; (try with_reducible rfl))); (try simp only [Act.put, zF, zG, zH]))
      (refine TG.v0 (v := ?v40) (by simp only [zA, zB, zC]; rfl) rfl ?hw40 (fun w1 => ?hy40) ?hn40; (case hw40 => rfl); (case hy40 => (go_simp; (try with_reducible rfl))); (try simp only [Act.put, zF, zG, zH]))
      (refine TG.load (v := ?v41) (p := ?p41) (by simp only [zA, zB, zC]; rfl) rfl ?hw41 rfl ?hx41 (fun wq hSq => ?hy41) ?hn41; (case hw41 => rfl); (case hx41 => (simp only [Act.eval, zD, zA, zB, zC, zE]; (try rfl))); (case hy41 => (have kp2q := hSq.at kp2 (by intro hT; first | exact hT | exact absurd hT (by assumption) | omega | (simp only at hT; omega)); have kp3q := hSq.at kp3 (by intro hT; first | exact hT | exact absurd hT (by assumption) | omega | (simp only at hT; omega)); have kgq := hSq.at kg (by intro hT; first | exact hT | exact absurd hT (by assumption) | omega | (simp only at hT; omega)); have kg'q := hSq.at kg' (by intro hT; first | exact hT | exact absurd hT (by assumption) | omega | (simp only at hT; omega)); go_simp; (try with_reducible rfl))); (try simp only [Act.put, zF, zG, zH]))
      (refine TG.v0 (v := ?v42) (by simp only [zA, zB, zC]; rfl) rfl ?hw42 (fun w1 => ?hy42) ?hn42; (case hw42 => rfl); (case hy42 => (go_simp; (try with_reducible rfl))); (try simp only [Act.put, zF, zG, zH]))
      (refine TG.v0 (v := ?v43) (by simp only [zA, zB, zC]; rfl) rfl ?hw43 (fun w1 => ?hy43) ?hn43; (case hw43 => rfl); (case hy43 => (go_simp; (try with_reducible rfl))); (try simp only [Act.put, zF, zG, zH]))
      (refine TG.v0 (v := ?v44) (by simp only [zA, zB, zC]; rfl) rfl ?hw44 (fun w1 => ?hy44) ?hn44; (case hw44 => rfl); (case hy44 => (go_simp; (try with_reducible rfl))); (try simp only [Act.put, zF, zG, zH]))
      (refine TG.load (v := ?v45) (p := ?p45) (by simp only [zA, zB, zC]; rfl) rfl ?hw45 rfl ?hx45 (fun wq hSq => ?hy45) ?hn45; (case hw45 => rfl); (case hx45 => (simp only [Act.eval, zD, zA, zB, zC, zE]; (try rfl))); (case hy45 => (have kp2q := hSq.at kp2 (by intro hT; first | exact hT | exact absurd hT (by assumption) | omega | (simp only at hT; omega)); have kp3q := hSq.at kp3 (by intro hT; first | exact hT | exact absurd hT (by assumption) | omega | (simp only at hT; omega)); have kgq := hSq.at kg (by intro hT; first | exact hT | exact absurd hT (by assumption) | omega | (simp only at hT; omega)); have kg'q := hSq.at kg' (by intro hT; first | exact hT | exact absurd hT (by assumption) | omega | (simp only at hT; omega)); go_simp; (try with_reducible rfl))); (try simp only [Act.put, zF, zG, zH]))
      (refine TG.callN (f := ?f46) (args := ?r46) (fun v => v = .bool true) gK (by simp only [zA, zB, zC]; rfl) rfl ?hw46 (fun w1 => ?hy46) (fun T wq kq ltq hSq ub => ?hsp46) ?hn46; (case hw46 => rfl); (case hy46 => (go_simp; (first | with_reducible rfl | (constructor <;> with_reducible rfl)))); (case hsp46 => (have kp2q := hSq.at kp2 (by intro hT; first | exact hT | exact absurd hT (by assumption) | omega | (simp only at hT; omega)); have kp3q := hSq.at kp3 (by intro hT; first | exact hT | exact absurd hT (by assumption) | omega | (simp only at hT; omega)); have kgq := hSq.at kg (by intro hT; first | exact hT | exact absurd hT (by assumption) | omega | (simp only at hT; omega)); have kg'q := hSq.at kg' (by intro hT; first | exact hT | exact absurd hT (by assumption) | omega | (simp only at hT; omega)); exact (sameB_c _ _ _ _ _ _ wq (HX2.out.2.1.mod0 hSq) (HY2.out.2.1.mod0 hSq) HX2.out.2.2).mono (fun e w' h => ⟨_, h.1, by simp, h.2⟩))); rintro v46 hC; subst hC; (try simp only [Act.put, zF, zG, zH]))
      (refine TG.v0 (v := ?v47) (by simp only [zA, zB, zC]; rfl) rfl ?hw47 (fun w1 => ?hy47) ?hn47; (case hw47 => rfl); (case hy47 => (go_simp; (try with_reducible rfl))); (try simp only [Act.put, zF, zG, zH]))
      (refine TG.v0 (v := ?v48) (by simp only [zA, zB, zC]; rfl) rfl ?hw48 (fun w1 => ?hy48) ?hn48; (case hw48 => rfl); (case hy48 => (go_simp; (try with_reducible rfl))); (try simp only [Act.put, zF, zG, zH]))
      refine TG.nil (fun w5 ⟨TR, hr⟩ => ?_)
      replace kp2 := hr.mod.at kp2 (by intro hT; first | exact hT | exact absurd hT (by assumption) | omega | (simp only at hT; omega))
      replace kp3 := hr.mod.at kp3 (by intro hT; first | exact hT | exact absurd hT (by assumption) | omega | (simp only at hT; omega))
      replace kg := hr.mod.at kg (by intro hT; first | exact hT | exact absurd hT (by assumption) | omega | (simp only at hT; omega))
      replace kg' := hr.mod.at kg' (by intro hT; first | exact hT | exact absurd hT (by assumption) | omega | (simp only at hT; omega))
      clear gK
      have HM5 := Lib.hid (HM.out.then0 hr.mod)
      clear hr c0 c1 c2 c0' c1' c2' kg kg' HX2 HY2
      go_wp2_with fail
      go_roundw
      case rel => exact ⟨i + 1, by omega, by go_num, HM5, kp2, kp3⟩
      case measure => simp [intOf]; omega
    · have hd := decide_eq_false hlt
      clear hi hlt
      go_wp2_with fail
      go_loopw [6] (fun s6 ws => ∃ i : Nat, i ≤ nL ∧ s6 = .int .i64 (i : Int) ∧ Hid (Mod (fun _ => False) w ws) ∧ ws.heap[p2]? = some (.cells (mgx v0 h0 h1 h2 ka nK kcap rc ia nI ic la nL lc) 43 (0, 0)) ∧ ws.heap[p3]? = some (.cells (mgx v0 h0 h1 h2 ka' nK kcap' rc ia' nI ic' la' nL lc') 43 (0, 0))) (fun s6 _ => nL - (intOf s6).toNat)
      case atStart => exact ⟨0, by omega, rfl, HM, kp2, kp3⟩
      case round =>
        obtain ⟨i, hi, rfl, HM, kp2, kp3⟩ := hrel
        by_cases hlt : i < nL
        · --{
          have hd := decide_eq_true hlt
          obtain ⟨x, hx⟩ : ∃ x, L[i]? = some x := ⟨_, List.getElem?_eq_getElem (by have := HN.out.2.2.1; omega)⟩
          obtain ⟨y, hy⟩ : ∃ y, L'[i]? = some y := ⟨_, List.getElem?_eq_getElem (by have := HN.out.2.2.2.2.1; omega)⟩
          have hxy : loP x = loP y := by
            have h1 := congrArg (fun z => z[i]?) HN.out.2.2.2.2.2.2
            simp only [List.getElem?_map, hx, hy, Option.map_some] at h1
            exact Option.some.inj h1
          have hX := (HX.out.mod0 HM.out).2.2.2.2 x (List.mem_of_getElem? hx)
          have hY := (HY.out.mod0 HM.out).2.2.2.2 y (List.mem_of_getElem? hy)
          obtain ⟨g, o, C, U, fr, hga, kg, c0, hle, c1, c2⟩ := lo_partsS (HX.out.mod0 HM.out).2.2.1 hx
          obtain ⟨g', o', C', U', fr', hga', kg', c0', hle', c1', c2'⟩ := lo_partsS (HY.out.mod0 HM.out).2.2.1 hy
          simp only at hga hga'
          subst hga
          subst hga'
          obtain ⟨px, ⟨ax, lx, cx⟩, ⟨dx, mx', ex⟩⟩ := x
          obtain ⟨py, ⟨ay, ly, cy⟩, ⟨dy, my, ey⟩⟩ := y
          simp only [loP, LoP.mk.injEq] at hxy
          obtain ⟨rfl, rfl, rfl⟩ := hxy
          simp only at c0 c1 c2 c0' c1' c2' hX hY
          have HX2 := Lib.hid hX
          have HY2 := Lib.hid hY
          clear hx hy hX hY
          go_upto_region 11 with fail
          have Lkp2 := lt_size kp2
          have Lkp3 := lt_size kp3
          have Lkg := lt_size kg
          have Lkg' := lt_size kg'
          refine wp_gpass (T0 := fun _ => False) (K := fun _ _ => True) (κ := fun i => [0, 0, 0, 0, 0, 0, 0, 0, 0, 0, 0, 0, 0, 0, 0, 0, 0, 0, 0, 0, 0, 0, 0, 0, 0, 0, 6, 0, 0, 0, 0, 0, 0, 0, 0, 0, 0, 0, 0, 0, 0, 0, 6, 0, 0].getD i 0) (υ := fun i => [[], [], [], [], [], [], [], [], [], [], [], [], [], [], [], [], [], [], [], [], [], [], [], [], [], [], [], [], [], [], [], [], [], [], [], [], [], [], [], [], [], [], [], [], []].getD i []) [0, 1, 2, 3, 4, 5, 6, 7, 8, 9, 10, 11, 12, 13, 14, 15, 16, 17, 18, 19, 20, 21, 22, 23, 24, 25, 26, 27, 28, 29, 30, 31, 32, 33, 34, 35, 36, 37, 38, 39, 40, 41, 42, 43, 44] (by kernel_rfl) (by kernel_rfl) (Good.true).cl (trivial) (fun _ h => h.elim) ?_
          have gK := Good.true
          (refine TG.v0 (v := ?v49) (by simp only [zA, zB, zC]; rfl) rfl ?hw49 (fun w1 => ?hy49) ?hn49; (case hw49 => rfl); (case hy49 => (go_simp; (try with_reducible rfl))); (try simp only [Act.put, zF, zG, zH]))
          (refine TG.load (v := ?v50) (p := ?p50) (by simp only [zA, zB, zC]; rfl) rfl ?hw50 rfl ?hx50 (fun wq hSq => ?hy50) ?hn50; (case hw50 => rfl); (case hx50 => (simp only [Act.eval, zD, zA, zB, zC, zE]; (try rfl))); (case hy50 => (have kp2q := hSq.at kp2 (by intro hT; first | exact hT | exact absurd hT (by assumption) | omega | (simp only at hT; omega)); have kp3q := hSq.at kp3 (by intro hT; first | exact hT | exact absurd hT (by assumption) | omega | (simp only at hT; omega)); have kgq := hSq.at kg (by intro hT; first | exact hT | exact absurd hT (by assumption) | omega | (simp only at hT; omega)); have kg'q := hSq.at kg' (by intro hT; first | exact hT | exact absurd hT (by assumption) | omega | (simp only at hT; omega)); go_simp; (try with_reducible rfl))); (try simp only [Act.put, zF, zG, zH]))
          (refine TG.v0 (v := ?v51) (by simp only [zA, zB, zC]; rfl) rfl ?hw51 (fun w1 => ?hy51) ?hn51; (case hw51 => rfl); (case hy51 => (go_simp; (try with_reducible rfl))); (try simp only [Act.put, zF, zG, zH]))
          (refine TG.v0 (v := ?v52) (by simp only [zA, zB, zC]; rfl) rfl ?hw52 (fun w1 => ?hy52) ?hn52; (case hw52 => rfl); (case hy52 => (go_simp; (try with_reducible rfl))); (try simp only [Act.put, zF, zG, zH]))
          (refine TG.v0 (v := ?v53) (by simp only [zA, zB, zC]; rfl) rfl ?hw53 (fun w1 => ?hy53) ?hn53; (case hw53 => rfl); (case hy53 => (go_simp; (try with_reducible rfl))); (try simp only [Act.put, zF, zG, zH]))
          (refine TG.load (v := ?v54) (p := ?p54) (by simp only [zA, zB, zC]; rfl) rfl ?hw54 rfl ?hx54 (fun wq hSq => ?hy54) ?hn54; (case hw54 => rfl); (case hx54 => (simp only [Act.eval, zD, zA, zB, zC, zE]; (try rfl))); (case hy54 => (have kp2q := hSq.at kp2 (by intro hT; first | exact hT | exact absurd hT (by assumption) | omega | (simp only at hT; omega)); have kp3q := hSq.at kp3 (by intro hT; first | exact hT | exact absurd hT (by assumption) | omega | (simp only at hT; omega)); have kgq := hSq.at kg (by intro hT; first | exact hT | exact absurd hT (by assumption) | omega | (simp only at hT; omega)); have kg'q := hSq.at kg' (by intro hT; first | exact hT | exact absurd hT (by assumption) | omega | (simp only at hT; omega)); go_simp; (try with_reducible rfl))); (try simp only [Act.put, zF, zG, zH]))
          (refine TG.v0 (v := ?v55) (by simp only [zA, zB, zC]; rfl) rfl ?hw55 (fun w1 => ?hy55) ?hn55; (case hw55 => rfl); (case hy55 => (go_simp; (try with_reducible rfl))); (try simp only [Act.put, zF, zG, zH]))
          (refine TG.load (v := ?v56) (p := ?p56) (by simp only [zA, zB, zC]; rfl) rfl ?hw56 rfl ?hx56 (fun wq hSq => ?hy56) ?hn56; (case hw56 => rfl); (case hx56 => (simp only [Act.eval, zD, zA, zB, zC, zE]; (try rfl))); (case hy56 => (have kp2q := hSq.at kp2 (by intro hT; first | exact hT | exact absurd hT (by assumption) | omega | (simp only at hT; omega)); have kp3q := hSq.at kp3 (by intro hT; first | exact hT | exact absurd hT (by assumption) | omega | (simp only at hT; omega)); have kgq := hSq.at kg (by intro hT; first | exact hT | exact absurd hT (by assumption) | omega | (simp only at hT; omega)); have kg'q := hSq.at kg' (by intro hT; first | exact hT | exact absurd hT (by assumption) | omega | (simp only at hT; omega)); go_simp; (try with_reducible rfl))); (try simp only [Act.put, zF, zG, zH]))
          (refine TG.v0 (v := ?v57) (by simp only [zA, zB, zC]; rfl) rfl ?hw57 (fun w1 => ?hy57) ?hn57; (case hw57 => rfl); (case hy57 => (go_simp; (try with_reducible rfl))); (try simp only [Act.put, zF, zG, zH]))
          (refine TG.v0 (v := ?v58) (by simp only [zA, zB, zC]; rfl) rfl ?hw58 (fun w1 => ?hy58) ?hn58; (case hw58 => rfl); (case hy58 => (go_simp; (try with_reducible rfl))); (try simp only [Act.put, zF, zG, zH]))
          (refine TG.v0 (v := ?v59) (by simp only [zA, zB, zC]; rfl) rfl ?hw59 (fun w1 => ?hy59) ?hn59; (case hw59 => rfl); (case hy59 => (go_simp; (try with_reducible rfl))); (try simp only [Act.put, zF, zG, zH]))
          (refine TG.load (v := ?v60) (p := ?p60) (by simp only [zA, zB, zC]; rfl) rfl ?hw60 rfl ?hx60 (fun wq hSq => ?hy60) ?hn60; (case hw60 => rfl); (case hx60 => (simp only [Act.eval, zD, zA, zB, zC, zE]; (try rfl))); (case hy60 => (have kp2q := hSq.at kp2 (by intro hT; first | exact hT | exact absurd hT (by assumption) | omega | (simp only at hT; omega)); have kp3q := hSq.at kp3 (by intro hT; first | exact hT | exact absurd hT (by assumption) | omega | (simp only at hT; omega)); have kgq := hSq.at kg (by intro hT; first | exact hT | exact absurd hT (by assumption) | omega | (simp only at hT; omega)); have kg'q := hSq.at kg' (by intro hT; first | exact hT | exact absurd hT (by assumption) | omega | (simp only at hT; omega)); go_simp; (try with_reducible rfl))); (try simp only [Act.put, zF, zG, zH]))
          (refine TG.v0 (v := ?v61) (by simp only [zA, zB, zC]; rfl) rfl ?hw61 (fun w1 => ?hy61) ?hn61; (case hw61 => rfl); (case hy61 => (go_simp; (try with_reducible rfl))); (try simp only [Act.put, zF, zG, zH]))
          (refine TG.v0 (v := ?v62) (by simp only [zA, zB, zC]; rfl) rfl ?hw62 (fun w1 => ?hy62) ?hn62; (case hw62 => rfl); (case hy62 => (go_simp; (try with_reducible rfl))); (try simp only [Act.put, zF, zG, zH]))
          (refine TG.v0 (v := ?v63) (by simp only [zA, zB, zC]; rfl) rfl ?hw63 (fun w1 => ?hy63) ?hn63; (case hw63 => rfl); (case hy63 => (go_simp; (try with_reducible rfl))); (try simp only [Act.put, zF, zG, zH]))
          (refine TG.load (v := ?v64) (p := ?p64) (by simp only [zA, zB, zC]; rfl) rfl ?hw64 rfl ?hx64 (fun wq hSq => ?hy64) ?hn64; (case hw64 => rfl); (case hx64 => (simp only [Act.eval, zD, zA, zB, zC, zE]; (try rfl))); (case hy64 => (have kp2q := hSq.at kp2 (by intro hT; first | exact hT | exact absurd hT (by assumption) | omega | (simp only at hT; omega)); have kp3q := hSq.at kp3 (by intro hT; first | exact hT | exact absurd hT (by assumption) | omega | (simp only at hT; omega)); have kgq := hSq.at kg (by intro hT; first | exact hT | exact absurd hT (by assumption) | omega | (simp only at hT; omega)); have kg'q := hSq.at kg' (by intro hT; first | exact hT | exact absurd hT (by assumption) | omega | (simp only at hT; omega)); go_simp; (try with_reducible rfl))); (try simp only [Act.put, zF, zG, zH]))
          (refine TG.v0 (v := ?v65) (by simp only [zA, zB, zC]; rfl) rfl ?hw65 (fun w1 => ?hy65) ?hn65; (case hw65 => rfl); (case hy65 => (go_simp; (try with_reducible rfl))); (try simp only [Act.put, zF, zG, zH]))
          (refine TG.v0 (v := ?v66) (by simp only [zA, zB, zC]; rfl) rfl ?hw66 (fun w1 => ?hy66) ?hn66; (case hw66 => rfl); (case hy66 => (go_simp; (try with_reducible rfl))); (try simp only [Act.put, zF, zG, zH]))
          (refine TG.v0 (v := ?v67) (by simp only [zA, zB, zC]; rfl) rfl ?hw67 (fun w1 => ?hy67) ?hn67; (case hw67 => rfl); (case hy67 => (go_simp; (try with_reducible rfl))); (try simp only [Act.put, zF, zG, zH]))
          (refine TG.load (v := ?v68) (p := ?p68) (by simp only [zA, zB, zC]; rfl) rfl ?hw68 rfl ?hx68 (fun wq hSq => ?hy68) ?hn68; (case hw68 => rfl); (case hx68 => (simp only [Act.eval, zD, zA, zB, zC, zE]; (try rfl))); (case hy68 => (have kp2q := hSq.at kp2 (by intro hT; first | exact hT | exact absurd hT (by assumption) | omega | (simp only at hT; omega)); have kp3q := hSq.at kp3 (by intro hT; first | exact hT | exact absurd hT (by assumption) | omega | (simp only at hT; omega)); have kgq := hSq.at kg (by intro hT; first | exact hT | exact absurd hT (by assumption) | omega | (simp only at hT; omega)); have kg'q := hSq.at kg' (by intro hT; first | exact hT | exact absurd hT (by assumption) | omega | (simp only at hT; omega)); go_simp; (try with_reducible rfl))); (try simp only [Act.put, zF, zG, zH]))
          (refine TG.v0 (v := ?v69) (by simp only [zA, zB, zC]; rfl) rfl ?hw69 (fun w1 => ?hy69) ?hn69; (case hw69 => rfl); (case hy69 => (go_simp; (try with_reducible rfl))); (try simp only [Act.put, zF, zG, zH]))
          (refine TG.load (v := ?v70) (p := ?p70) (by simp only [zA, zB, zC]; rfl) rfl ?hw70 rfl ?hx70 (fun wq hSq => ?hy70) ?hn70; (case hw70 => rfl); (case hx70 => (simp only [Act.eval, zD, zA, zB, zC, zE]; (try rfl))); (case hy70 => (have kp2q := hSq.at kp2 (by intro hT; first | exact hT | exact absurd hT (by assumption) | omega | (simp only at hT; omega)); have kp3q := hSq.at kp3 (by intro hT; first | exact hT | exact absurd hT (by assumption) | omega | (simp only at hT; omega)); have kgq := hSq.at kg (by intro hT; first | exact hT | exact absurd hT (by assumption) | omega | (simp only at hT; omega)); have kg'q := hSq.at kg' (by intro hT; first | exact hT | exact absurd hT (by assumption) | omega | (simp only at hT; omega)); go_simp; (try with_reducible rfl))); (try simp only [Act.put, zF, zG, zH]))
          (refine TG.v0 (v := ?v71) (by simp only [zA, zB, zC]; rfl) rfl ?hw71 (fun w1 => ?hy71) ?hn71; (case hw71 => rfl); (case hy71 => (go_simp; (try with_reducible rfl))); (try simp only [Act.put, zF, zG, zH]))
          (refine TG.v0 (v := ?v72) (by simp only [zA, zB, zC]; rfl) rfl ?hw72 (fun w1 => ?hy72) ?hn72; (case hw72 => rfl); (case hy72 => (go_simp; (try with_reducible rfl))); (try simp only [Act.put, zF, zG, zH]))
          (refine TG.v0 (v := ?v73) (by simp only [zA, zB, zC]; rfl) rfl ?hw73 (fun w1 => ?hy73) ?hn73; (case hw73 => rfl); (case hy73 => (go_simp; (try with_reducible rfl))); (try simp only [Act.put, zF, zG, zH]))
          (refine TG.load (v := ?v74) (p := ?p74) (by simp only [zA, zB, zC]; rfl) rfl ?hw74 rfl ?hx74 (fun wq hSq => ?hy74) ?hn74; (case hw74 => rfl); (case hx74 => (simp only [Act.eval, zD, zA, zB, zC, zE]; (try rfl))); (case hy74 => (have kp2q := hSq.at kp2 (by intro hT; first | exact hT | exact absurd hT (by assumption) | omega | (simp only at hT; omega)); have kp3q := hSq.at kp3 (by intro hT; first | exact hT | exact absurd hT (by assumption) | omega | (simp only at hT; omega)); have kgq := hSq.at kg (by intro hT; first | exact hT | exact absurd hT (by assumption) | omega | (simp only at hT; omega)); have kg'q := hSq.at kg' (by intro hT; first | exact hT | exact absurd hT (by assumption) | omega | (simp only at hT; omega)); go_simp; (try with_reducible rfl))); (try simp only [Act.put, zF, zG, zH]))
          (refine TG.callN (f := ?f75) (args := ?r75) (fun v => v = .bool true) gK (by simp only [zA, zB, zC]; rfl) rfl ?hw75 (fun w1 => ?hy75) (fun T wq kq ltq hSq ub => ?hsp75) ?hn75; (case hw75 => rfl); (case hy75 => (go_simp; (first | with_reducible rfl | (constructor <;> with_reducible rfl)))); (case hsp75 => (have kp2q := hSq.at kp2 (by intro hT; first | exact hT | exact absurd hT (by assumption) | omega | (simp only at hT; omega)); have kp3q := hSq.at kp3 (by intro hT; first | exact hT | exact absurd hT (by assumption) | omega | (simp only at hT; omega)); have kgq := hSq.at kg (by intro hT; first | exact hT | exact absurd hT (by assumption) | omega | (simp only at hT; omega)); have kg'q := hSq.at kg' (by intro hT; first | exact hT | exact absurd hT (by assumption) | omega | (simp only at hT; omega)); exact (sameB_c _ _ _ _ _ _ wq (HX2.out.1.1.mod0 hSq) (HY2.out.1.1.mod0 hSq) HX2.out.1.2).mono (fun e w' h => ⟨_, h.1, by simp, h.2⟩))); rintro v75 hC; subst hC; (try simp only [Act.put, zF, zG, zH]))
          (refine TG.v0 (v := ?v76) (by simp only [zA, zB, zC]; rfl) rfl ?hw76 (fun w1 => ?hy76) ?hn76; (case hw76 => rfl); (case hy76 => (go_simp; (try with_reducible rfl))); (try simp only [Act.put, zF, zG, zH]))
          (refine TG.v0 (v := ?v77) (by simp only [zA, zB, zC]; rfl) rfl ?hw77 (fun w1 => ?hy77) ?hn77; (case hw77 => rfl); (case hy77 => (go_simp; (try with_reducible rfl))); (try simp only [Act.put, zF, zG, zH]))
          (refine TG.v0 (v := ?v78) (by simp only [zA, zB, zC]; rfl) rfl ?hw78 (fun w1 => ?hy78) ?hn78; (case hw78 => rfl); (case hy78 => (go_simp; (try with_reducible rfl))); (try simp only [Act.put, zF, zG, zH]))
          (refine TG.v0 (v := ?v79) (by simp only [zA, zB, zC]; rfl) rfl ?hw79 (fun w1 => ?hy79) ?hn79; (case hw79 => rfl); (case hy79 => (go_simp; (try with_reducible rfl))); (try simp only [Act.put, zF, zG, zH]))
          (refine TG.load (v := ?v80) (p := ?p80) (by simp only [zA, zB, zC]; rfl) rfl ?hw80 rfl ?hx80 (fun wq hSq => ?hy80) ?hn80; (case hw80 => rfl); (case hx80 => (simp only [Act.eval, zD, zA, zB, zC, zE]; (try rfl))); (case hy80 => (have kp2q := hSq.at kp2 (by intro hT; first | exact hT | exact absurd hT (by assumption) | omega | (simp only at hT; omega)); have kp3q := hSq.at kp3 (by intro hT; first | exact hT | exact absurd hT (by assumption) | omega | (simp only at hT; omega)); have kgq := hSq.at kg (by intro hT; first | exact hT | exact absurd hT (by assumption) | omega | (simp only at hT; omega)); have kg'q := hSq.at kg' (by intro hT; first | exact hT | exact absurd hT (by assumption) | omega | (simp only at hT; omega)); go_simp; (try with_reducible rfl))); (try simp only [Act.put, zF, zG, zH]))
          (refine TG.v0 (v := ?v81) (by simp only [zA, zB, zC]; rfl) rfl ?hw81 (fun w1 => ?hy81) ?hn81; (case hw81 => rfl); (case hy81 => (go_simp; (try with_reducible rfl))); (try simp only [Act.put, zF, zG, zH]))
          (refine TG.v0 (v := ?v82) (by simp only [zA, zB, zC]; rfl) rfl ?hw82 (fun w1 => ?hy82) ?hn82; (case hw82 => rfl); (case hy82 => (go_simp; (try with_reducible rfl))); (try simp only [Act.put, zF, zG, zH]))
          (refine TG.v0 (v := ?v83) (by simp only [zA, zB, zC]; rfl) rfl ?hw83 (fun w1 => ?hy83) ?hn83; (case hw83 => rfl); (case hy83 => (go_simp; (try with_reducible rfl))); (try simp only [Act.put, zF, zG, zH]))
          (refine TG.load (v := ?v84) (p := ?p84) (by simp only [zA, zB, zC]; rfl) rfl ?hw84 rfl ?hx84 (fun wq hSq => ?hy84) ?hn84; (case hw84 => rfl); (case hx84 => (simp only [Act.eval, zD, zA, zB, zC, zE]; (try rfl))); (case hy84 => (have kp2q := hSq.at kp2 (by intro hT; first | exact hT | exact absurd hT (by assumption) | omega | (simp only at hT; omega)); have kp3q := hSq.at kp3 (by intro hT; first | exact hT | exact absurd hT (by assumption) | omega | (simp only at hT; omega)); have kgq := hSq.at kg (by intro hT; first | exact hT | exact absurd hT (by assumption) | omega | (simp only at hT; omega)); have kg'q := hSq.at kg' (by intro hT; first | exact hT | exact absurd hT (by assumption) | omega | (simp only at hT; omega)); go_simp; (try with_reducible rfl))); (try simp only [Act.put, zF, zG, zH]))
          (refine TG.v0 (v := ?v85) (by simp only [zA, zB, zC]; rfl) rfl ?hw85 (fun w1 => ?hy85) ?hn85; (case hw85 => rfl); (case hy85 => (go_simp; (try with_reducible rfl))); (try simp only [Act.put, zF, zG, zH]))
          (refine TG.load (v := ?v86) (p := ?p86) (by simp only [zA, zB, zC]; rfl) rfl ?hw86 rfl ?hx86 (fun wq hSq => ?hy86) ?hn86; (case hw86 => rfl); (case hx86 => (simp only [Act.eval, zD, zA, zB, zC, zE]; (try rfl))); (case hy86 => (have kp2q := hSq.at kp2 (by intro hT; first | exact hT | exact absurd hT (by assumption) | omega | (simp only at hT; omega)); have kp3q := hSq.at kp3 (by intro hT; first | exact hT | exact absurd hT (by assumption) | omega | (simp only at hT; omega)); have kgq := hSq.at kg (by intro hT; first | exact hT | exact absurd hT (by assumption) | omega | (simp only at hT; omega)); have kg'q := hSq.at kg' (by intro hT; first | exact hT | exact absurd hT (by assumption) | omega | (simp only at hT; omega)); go_simp; (try with_reducible rfl))); (try simp only [Act.put, zF, zG, zH]))
          (refine TG.v0 (v := ?v87) (by simp only [zA, zB, zC]; rfl) rfl ?hw87 (fun w1 => ?hy87) ?hn87; (case hw87 => rfl); (case hy87 => (go_simp; (try with_reducible rfl))); (try simp only [Act.put, zF, zG, zH]))
          (refine TG.v0 (v := ?v88) (by simp only [zA, zB, zC]; rfl) rfl ?hw88 (fun w1 => ?hy88) ?hn88; (case hw88 => rfl); (case hy88 => (go_simp; (try with_reducible rfl))); (try simp only [Act.put, zF, zG, zH]))
          (refine TG.v0 (v := ?v89) (by simp only [zA, zB, zC]; rfl) rfl ?hw89 (fun w1 => ?hy89) ?hn89; (case hw89 => rfl); (case hy89 => (go_simp; (try with_reducible rfl))); (try simp only [Act.put, zF, zG, zH]))
          (refine TG.load (v := ?v90) (p := ?p90) (by simp only [zA, zB, zC]; rfl) rfl ?hw90 rfl ?hx90 (fun wq hSq => ?hy90) ?hn90; (case hw90 => rfl); (case hx90 => (simp only [Act.eval, zD, zA, zB, zC, zE]; (try rfl))); (case hy90 => (have kp2q := hSq.at kp2 (by intro hT; first | exact hT | exact absurd hT (by assumption) | omega | (simp only at hT; omega)); have kp3q := hSq.at kp3 (by intro hT; first | exact hT | exact absurd hT (by assumption) | omega | (simp only at hT; omega)); have kgq := hSq.at kg (by intro hT; first | exact hT | exact absurd hT (by assumption) | omega | (simp only at hT; omega)); have kg'q := hSq.at kg' (by intro hT; first | exact hT | exact absurd hT (by assumption) | omega | (simp only at hT; omega)); go_simp; (try with_reducible rfl))); (try simp only [Act.put, zF, zG, zH]))
          (refine TG.callN (f := ?f91) (args := ?r91) (fun v => v = .bool true) gK (by simp only [zA, zB, zC]; rfl) rfl ?hw91 (fun w1 => ?hy91) (fun T wq kq ltq hSq ub => ?hsp91) ?hn91; (case hw91 => rfl); (case hy91 => (go_simp; (first | with_reducible rfl | (constructor <;> with_reducible rfl)))); (case hsp91 => (have kp2q := hSq.at kp2 (by intro hT; first | exact hT | exact absurd hT (by assumption) | omega | (simp only at hT; omega)); have kp3q := hSq.at kp3 (by intro hT; first | exact hT | exact absurd hT (by assumption) | omega | (simp only at hT; omega)); have kgq := hSq.at kg (by intro hT; first | exact hT | exact absurd hT (by assumption) | omega | (simp only at hT; omega)); have kg'q := hSq.at kg' (by intro hT; first | exact hT | exact absurd hT (by assumption) | omega | (simp only at hT; omega)); exact (sameB_c _ _ _ _ _ _ wq (HX2.out.2.1.mod0 hSq) (HY2.out.2.1.mod0 hSq) HX2.out.2.2).mono (fun e w' h => ⟨_, h.1, by simp, h.2⟩))); rintro v91 hC; subst hC; (try simp only [Act.put, zF, zG, zH]))
          (refine TG.v0 (v := ?v92) (by simp only [zA, zB, zC]; rfl) rfl ?hw92 (fun w1 => ?hy92) ?hn92; (case hw92 => rfl); (case hy92 => (go_simp; (try with_reducible rfl))); (try simp only [Act.put, zF, zG, zH]))
          (refine TG.v0 (v := ?v93) (by simp only [zA, zB, zC]; rfl) rfl ?hw93 (fun w1 => ?hy93) ?hn93; (case hw93 => rfl); (case hy93 => (go_simp; (try with_reducible rfl))); (try simp only [Act.put, zF, zG, zH]))
          refine TG.nil (fun w5 ⟨TR, hr⟩ => ?_)
          replace kp2 := hr.mod.at kp2 (by intro hT; first | exact hT | exact absurd hT (by assumption) | omega | (simp only at hT; omega))
          replace kp3 := hr.mod.at kp3 (by intro hT; first | exact hT | exact absurd hT (by assumption) | omega | (simp only at hT; omega))
          replace kg := hr.mod.at kg (by intro hT; first | exact hT | exact absurd hT (by assumption) | omega | (simp only at hT; omega))
          replace kg' := hr.mod.at kg' (by intro hT; first | exact hT | exact absurd hT (by assumption) | omega | (simp only at hT; omega))
          clear gK
          have HM5 := Lib.hid (HM.out.then0 hr.mod)
          clear hr c0 c1 c2 c0' c1' c2' kg kg' HX2 HY2 hle hle'
          go_wp2_with fail
          go_roundw
          case rel => exact ⟨i + 1, by omega, by go_num, HM5, kp2, kp3⟩
          case measure => simp [intOf]; omega
        · have hd := decide_eq_false hlt
          go_wp2_with fail
          go_ret
          exact ⟨rfl, HM.out⟩
end Go.Proofs.YtofpnmoeimjnnaaGreat
namespace Go.Proofs.YtofpnmoeimjnnaaGreat
open Go.RowKit
open Go.ChangeMaps (setBlock)
set_option linter.unusedSimpArgs false
set_option linter.unusedVariables false
attribute [local go_sem] cell_blk frozen_blk one_int one_bool one_ptr one_slice one_map Value.cells
attribute [local go_sem ↓] wlKey ldKey stKey wlMsg ldMsg stMsg wlTc ldTc stTc
attribute [local go_sem] kc_ext kc_one kc_one0 kc_size zKey_size one_slice mgx_size mgx_ext mgx_one mgx_one0 mg0 mg1 mg2 mg3 mg4 mg37 mg38 mg37' mg38'
theorem txr_ms (x : RdR) : (txr x).extract 1 40 = msr x := by
  have := part_of (pre := [Value.slice x.sg.a x.sg.l.length x.sg.c]) (mid := (rpre x).drop 2 ++ (x.rc.l.map bc ++ (rpost x).take 2)) (post := []) (a := 1) (b := 40) rfl (by simp [rpre, rpost, x.rc.h])
  simpa [txr, msr, mx, rpre, rpost] using this
attribute [local go_sem] txr_ms txr_size txr_all txr_one txr_one' txr0 txr0'
set_option maxRecDepth 20000 in
set_option maxHeartbeats 3200000 in
theorem sameTx_c (x y : RdR) (w : World) (hx : TxRd w x) (hy : TxRd w y) (hxy : txP x = txP y) : Calls Tryz.prog 10 #[.agg (txr x), .agg (txr y)] w fun e w' => e = .returned (.bool true) ∧ Mod (fun _ => False) w w' := by
  have HX := Lib.hid hx
  have HY := Lib.hid hy
  have hs : x.sg.l = y.sg.l := congrArg TxP.sg hxy
  have hm : msgP x = msgP y := congrArg TxP.m hxy
  have HS := Lib.hid (And.intro hs hm)
  clear hx hy hxy hs hm
  go_enter Tryz.func10, Tryz.ntmps10
  go_upto_region 0 with fail
  refine wp_pass0 (C := fun _ _ _ => False) (κ := fun i => [3, 3, 0].getD i 0) [0, 1, 2] (by kernel_rfl) (by kernel_rfl) (fun _ _ d _ _ h => by cases d <;> first | exact h | exact absurd h (hP _ _ _)) ?_
  (refine TD.box (v := ?v1) (by simp only [zA, zB, zC]; rfl) rfl ?hw1 rfl rfl ?hx1 (fun p2 hp2 => ?hn1); (case hw1 => rfl); (case hx1 => (simp only [Act.eval, zD, zA, zB, zC, zE]; (try rfl))); (try simp only [Act.put, zF, zG, zH]))
  (refine TD.box (v := ?v2) (by simp only [zA, zB, zC]; rfl) rfl ?hw2 rfl rfl ?hx2 (fun p3 hp3 => ?hn2); (case hw2 => rfl); (case hx2 => (simp only [Act.eval, zD, zA, zB, zC, zE]; (try rfl))); (try simp only [Act.put, zF, zG, zH]))
  obtain ⟨ne_p3_p2, hp3⟩ := Bx.set_none hp3
  (refine TD.val0 (v := ?v3) (by simp only [zA, zB, zC]; rfl) rfl ?hw3 (fun w1 => ?hy3) ?hn3; (case hw3 => rfl); (case hy3 => (go_simp; (try with_reducible rfl))); (try simp only [Act.put, zF, zG, zH]))
  refine TD.nil (fun w1 hr => ?_)
  have kp2 := hr.box p2 _ (by first | exact Bx.set_same _ _ _ | (simp only [Bx.set_ne _ (Ne.symm ne_p3_p2), Bx.set_ne _ ne_p3_p2, Bx.set_same]; rfl)); dsimp only [Value.cells] at kp2; obtain ⟨gp2, kp2⟩ := kp2
  have kp3 := hr.box p3 _ (by first | exact Bx.set_same _ _ _ | (simp only [Bx.set_ne _ (Ne.symm ne_p3_p2), Bx.set_ne _ ne_p3_p2, Bx.set_same]; rfl)); dsimp only [Value.cells] at kp3; obtain ⟨gp3, kp3⟩ := kp3
  have m1 := hr.mod
  clear hr
  have HM1 := Lib.hid m1
  have HC := Lib.hid (sameS_c x.sg.a y.sg.a x.sg.l y.sg.l x.sg.c y.sg.c w1 (HX.out.1.1.mod0 m1) (HY.out.1.1.mod0 m1) HX.out.1.2)
  clear m1
  go_wp2_with fail
  go_at_call 33
  refine HC.out.mono ?_
  rintro e w2 ⟨rfl, m2⟩
  replace kp2 := m2.at0 kp2
  replace kp3 := m2.at0 kp3
  have hdd : decide (x.sg.l = y.sg.l) = true := decide_eq_true HS.out.1
  rw [hdd]
  have HM2 := Lib.hid (HM1.out.trans m2)
  clear m2 HM1 HC hdd
  go_wp2_with fail
  go_at_call 34
  refine (sameMsg_c x y _ (HX.out.mod0 HM2.out).2 (HY.out.mod0 HM2.out).2 HS.out.2).mono ?_
  rintro e w3 ⟨rfl, m3⟩
  have HM3 := Lib.hid (HM2.out.trans m3)
  clear m3
  go_wp2_with fail
  go_ret
  exact ⟨rfl, HM3.out⟩
end Go.Proofs.YtofpnmoeimjnnaaGreat
namespace Go.Proofs.YtofpnmoeimjnnaaGreat
open Go.RowKit
open Go.ChangeMaps (setBlock)
set_option linter.unusedSimpArgs false
set_option linter.unusedVariables false
attribute [local go_sem] cell_blk frozen_blk one_int one_bool one_ptr one_slice one_map Value.cells
attribute [local go_sem ↓] wlKey ldKey stKey
attribute [local go_sem] kc_ext kc_one kc_one0 kc_size zKey_size one_slice
theorem wr_get (vs : List Value) (cs : Array Value) (o : Nat) (h : o + vs.length ≤ cs.size) (t : Nat) : (wr cs o vs)[t]? = if o ≤ t ∧ t < o + vs.length then vs[t - o]? else cs[t]? := by
  rw [← Array.getElem?_toList, wr_list vs cs o h]
  have hl : cs.toList.length = cs.size := Array.length_toList
  by_cases h1 : t < o
  · rw [if_neg (by omega), List.append_assoc, List.getElem?_append_left (by rw [List.length_take]; omega), List.getElem?_take, if_pos h1, Array.getElem?_toList]
  · by_cases h2 : t < o + vs.length
    · rw [if_pos ⟨by omega, h2⟩, List.append_assoc, List.getElem?_append_right (by rw [List.length_take]; omega), List.length_take, Nat.min_eq_left (by omega), List.getElem?_append_left (by omega)]
    · rw [if_neg (by omega), List.getElem?_append_right (by rw [List.length_append, List.length_take]; omega), List.length_append, List.length_take, Nat.min_eq_left (by omega), List.getElem?_drop, Array.getElem?_toList]
      congr 1
      omega
theorem row_set {α : Type} {f : α → Array Value} {n o i : Nat} {C : Array Value} {l : List α} (hs : ∀ x, (f x).size = n) (hrow : ∀ j y, l[j]? = some y → C.extract (o + j * n) (o + j * n + n) = f y ∧ o + j * n + n ≤ C.size) (hi : i < l.length) (x : α) :
    ∀ j y, (l.set i x)[j]? = some y → (wr C (o + i * n) (f x).toList).extract (o + j * n) (o + j * n + n) = f y ∧ o + j * n + n ≤ (wr C (o + i * n) (f x).toList).size := by
  intro j y hy
  have hfl : (f x).toList.length = n := by rw [Array.length_toList, hs]
  have hii := (hrow i _ (List.getElem?_eq_getElem hi)).2
  rw [wr_size]
  have hget := fun t => wr_get (f x).toList C (o + i * n) (by rw [hfl]; exact hii) t
  rw [hfl] at hget
  by_cases hj : j = i
  · subst hj
    rw [List.getElem?_set_self hi] at hy
    cases hy
    refine ⟨?_, hii⟩
    apply Array.ext_getElem?
    intro t
    rw [Array.getElem?_extract, wr_size]
    by_cases ht : t < n
    · rw [if_pos (by omega), hget, if_pos (by omega), Nat.add_sub_cancel_left, Array.getElem?_toList]
    · rw [if_neg (by omega), Array.getElem?_eq_none (by rw [hs]; omega)]
  · rw [List.getElem?_set_ne (fun e => hj e.symm)] at hy
    obtain ⟨h1, h2⟩ := hrow j y hy
    refine ⟨?_, h2⟩
    rw [← h1]
    apply Array.ext_getElem?
    intro t
    rw [Array.getElem?_extract, Array.getElem?_extract, wr_size]
    by_cases ht : t < n
    · rw [if_pos (by omega), if_pos (by omega), hget, if_neg]
      intro hh
      rcases Nat.lt_or_ge j i with h | h
      · have : (j + 1) * n ≤ i * n := Nat.mul_le_mul_right _ h
        rw [Nat.add_mul, Nat.one_mul] at this
        omega
      · have : (i + 1) * n ≤ j * n := Nat.mul_le_mul_right _ (by omega)
        rw [Nat.add_mul, Nat.one_mul] at this
        omega
    · rw [if_neg (by omega), if_neg (by omega)]
theorem ite_wr {xs cs : Array Value} {o n : Nat} (h : xs.size = n) : (if o = 0 ∧ n = cs.size then xs else wr cs o xs.toList) = wr cs o xs.toList := by
  split
  · rename_i hh
    obtain ⟨rfl, h2⟩ := hh
    rw [wr_whole _ _ (by omega)]
  · rfl
theorem ite_wr2 {xs cs : Array Value} {o k n : Nat} (h : xs.size = n) : (if (o = 0 ∧ k = 0) ∧ n = cs.size then xs else wr cs (o + k) xs.toList) = wr cs (o + k) xs.toList := by
  split
  · rename_i hh
    obtain ⟨⟨rfl, rfl⟩, h2⟩ := hh
    rw [Nat.zero_add, wr_whole _ _ (by omega)]
  · rfl
theorem set_repG {α : Type} {h : α} {l : List α} {i : Nat} (hi : i < l.length) : (List.replicate i h ++ l.drop i).set i h = List.replicate (i + 1) h ++ l.drop (i + 1) := by
  rw [List.set_append_right _ _ (by simp), List.length_replicate, Nat.sub_self, List.drop_eq_getElem_cons hi, zG, List.replicate_succ']
  simp
def WAtG {α : Type} (f : α → Array Value) (n : Nat) (w : World) (a : Option Addr) (l : List α) : Prop := l = [] ∨ ∃ b o C U, a = some ⟨b, o, none⟩ ∧ w.heap[b]? = some (.cells C U (0, 0)) ∧ ∀ j y, l[j]? = some y → C.extract (o + j * n) (o + j * n + n) = f y ∧ o + j * n + n ≤ C.size
section
variable {α : Type} {f : α → Array Value} {n : Nat}
theorem WAtG.sl {w : World} {a : Option Addr} {l : List α} (h : WAtG f n w a l) : SlAt f n w a l := by
  rcases h with h | ⟨b, o, C, U, h1, h2, h3⟩
  · exact .inl h
  · exact .inr ⟨b, o, C, _, _, h1, h2, h3⟩
theorem WAtG.mod {w w' : World} {a : Option Addr} {l : List α} {S : Nat → Prop} (h : WAtG f n w a l) (hm : Mod S w w') (hS : ∀ b o, a = some ⟨b, o, none⟩ → ¬ S b) : WAtG f n w' a l := by
  rcases h with h | ⟨b, o, C, U, h1, h2, h3⟩
  · exact .inl h
  · exact .inr ⟨b, o, C, U, h1, hm.at h2 (hS b o h1), h3⟩
theorem WAtG.of {E : TypeId} {b : Nat} {w : World} {a : Option Addr} {m c : Nat} {l : List α} (h : NewS f n E b w (.slice a m c) l) : WAtG f n w a l := by
  rcases h with ⟨_, h⟩ | ⟨g, cur, h1, _, h2, h3⟩
  · exact .inl h
  · injection h1 with h1 _ _
    exact .inr ⟨g, 0, cur, E, h1, h2, fun j y hy => by simpa using h3 j y hy⟩
end
def InAd (a : Option Addr) (i : Nat) : Prop := ∃ o, a = some ⟨i, o, none⟩
inductive Pg
  | y (a : Option Addr) (n : Nat) (h f : UInt8)
  | k (a : Option Addr) (n : Nat) (h f : Key)
  | s (a : Option Addr) (n : Nat) (h f : Sg)
def Pg.a : Pg → Option Addr
  | .y a _ _ _ => a
  | .k a _ _ _ => a
  | .s a _ _ _ => a
def Pg.n : Pg → Nat
  | .y _ n _ _ => n
  | .k _ n _ _ => n
  | .s _ n _ _ => n
def shy (a : Option Addr) (n : Nat) (h f : UInt8) : Array Value := #[.slice a n n, u8v h, u8v f]
def shk (a : Option Addr) (n : Nat) (h f : Key) : Array Value := #[.slice a n n] ++ (kc h ++ kc f)
def shs (a : Option Addr) (n : Nat) (h f : Sg) : Array Value := #[.slice a n n] ++ (sgc h ++ sgc f)
def shc : Pg → Array Value
  | .y a n h f => shy a n h f
  | .k a n h f => shk a n h f
  | .s a n h f => shs a n h f
def shT : Pg → TypeId
  | .y .. => 215
  | .k .. => 213
  | .s .. => 160
def pgc (p : Pg) : Array Value := #[.iface (shT p) (.agg (shc p))]
theorem pageT : ElT Tryz.prog 29 106 pgc 1 16 where
  u := Tryz.underlying29
  info := by
    obtain ⟨i0, hi, hz0, hz1, hz2⟩ := info_parts (show (Tryz.prog.info? 106).map (fun i => (i.zero, i.size, i.bytes)) = some (some .nilIface, 1, 16) by kernel_rfl)
    exact ⟨i0, _, hi, hz0, hz1, hz2, rfl⟩
  pos := by omega
  size x := rfl
  one x u hu := by
    simp [pgc] at hu
    subst hu
    rfl
def signF : Pg → FuncId
  | .y .. => 152
  | .k .. => 150
  | .s .. => 147
def ownF : Pg → FuncId
  | .y .. => 151
  | .k .. => 149
  | .s .. => 146
theorem m_sign (p : Pg) (v : Value) (w : World) : (method 368 (shT p) v "ferryhouse/ferryhouselaw01.sign").run Tryz.prog w = .ok (signF p, v) w := by
  cases p <;> kernel_rfl
theorem m_own (p : Pg) (v : Value) (w : World) : (method 368 (shT p) v "ferryhouse/ferryhouselaw01.own").run Tryz.prog w = .ok (ownF p, v) w := by
  cases p <;> kernel_rfl
theorem e_sign (p : Pg) (args : Array Value) (w : World) : (callFunc (signF p) args).run Tryz.prog w = .ok (.enter (signF p) args) w := by
  cases p
  · exact enters_of Tryz.func152 (by kernel_rfl) rfl args w
  · exact enters_of Tryz.func150 (by kernel_rfl) rfl args w
  · exact enters_of Tryz.func147 (by kernel_rfl) rfl args w
theorem e_own (p : Pg) (args : Array Value) (w : World) : (callFunc (ownF p) args).run Tryz.prog w = .ok (.enter (ownF p) args) w := by
  cases p
  · exact enters_of Tryz.func151 (by kernel_rfl) rfl args w
  · exact enters_of Tryz.func149 (by kernel_rfl) rfl args w
  · exact enters_of Tryz.func146 (by kernel_rfl) rfl args w
def SgP (w : World) : Pg → Prop
  | .y a n h _ => WAtG uc 1 w a (List.replicate n h)
  | .k a n h _ => WAtG kc 32 w a (List.replicate n h)
  | .s a n h _ => WAtG sgc 64 w a (List.replicate n h)
theorem SgP.mod {w w' : World} {p : Pg} {S : Nat → Prop} (h : SgP w p) (hm : Mod S w w') (hS : ∀ g, InAd p.a g → ¬ S g) : SgP w' p := by
  cases p with
  | y a n h' f => exact WAtG.mod h hm (fun b o e => hS b ⟨o, e⟩)
  | k a n h' f => exact WAtG.mod h hm (fun b o e => hS b ⟨o, e⟩)
  | s a n h' f => exact WAtG.mod h hm (fun b o e => hS b ⟨o, e⟩)
end Go.Proofs.YtofpnmoeimjnnaaGreat
namespace Go.Proofs.YtofpnmoeimjnnaaGreat
open Go.RowKit
open Go.ChangeMaps (setBlock)
set_option linter.unusedSimpArgs false
set_option linter.unusedVariables false
attribute [local go_sem] cell_blk frozen_blk one_int one_bool one_ptr one_slice one_map Value.cells
attribute [local go_sem ↓] wlKey ldKey stKey
attribute [local go_sem] kc_ext kc_one kc_one0 kc_size zKey_size one_slice
attribute [local go_sem ↓] wlSg ldSg stSg eqSigS eqKey1
attribute [local go_sem] sgc_size sgc_ext sgc_one0 sgc_one'
theorem shK_size (a : Option Addr) (n : Nat) (h f : Key) : (shk a n h f).size = 65 := by simp [shk, kc_size]
theorem shK_h (a : Option Addr) (n : Nat) (h f : Key) : (shk a n h f).extract 1 (1 + 32) = kc h := extract_app (n := 1) (m := 32) rfl (kc_size _)
theorem shK_h' (a : Option Addr) (n : Nat) (h f : Key) : (shk a n h f).extract 1 33 = kc h := shK_h a n h f
theorem shK_0 (a : Option Addr) (n : Nat) (h f : Key) : (shk a n h f)[0]? = some (.slice a n n) := by
  unfold shk
  rw [Array.getElem?_append_left (by simp)]
  rfl
theorem shK_0' {a : Option Addr} {n : Nat} {h f : Key} (hi : 0 < (shk a n h f).size) : (shk a n h f)[0] = .slice a n n := at_get (shK_0 ..) hi
attribute [local go_sem] shK_size shK_0 shK_0' shK_h shK_h'
set_option maxRecDepth 20000 in
set_option maxHeartbeats 1600000 in
theorem sign0K_c (pa : Option Addr) (pn : Nat) (ph pf : Key) (l : List Key) (hl : l.length = pn) (hb : pn ≤ 900000) (w : World) (h : WAtG kc 32 w pa l) : Calls Tryz.prog 150 #[.agg (shk pa pn ph pf), .bool false] w fun e w' => e = .returned (.tuple #[]) ∧ WAtG kc 32 w' pa (List.replicate pn ph) ∧ Mod (InAd pa) w w' := by
  go_enter Tryz.func150, Tryz.ntmps150
  go_upto_region 0 with fail
  refine wp_pass0 (C := fun _ _ _ => False) (κ := fun i => [3].getD i 0) [0] (by kernel_rfl) (by kernel_rfl) (fun _ _ d _ _ h => by cases d <;> first | exact h | exact absurd h (hP _ _ _)) ?_
  (refine TD.box (v := ?v1) (by simp only [zA, zB, zC]; rfl) rfl ?hw1 rfl rfl ?hx1 (fun p2 hp2 => ?hn1); (case hw1 => rfl); (case hx1 => (simp only [Act.eval, zD, zA, zB, zC, zE]; (try rfl))); (try simp only [Act.put, zF, zG, zH]))
  refine TD.nil (fun w1 hr => ?_)
  have kp2 := hr.box p2 _ (by first | exact Bx.set_same _ _ _ | (simp only [Bx.set_same]; rfl)); dsimp only [Value.cells] at kp2; obtain ⟨gp2, kp2⟩ := kp2
  have m1 := hr.mod
  have hW := h.mod m1 (fun _ _ _ h => h)
  have HW0 := Lib.hid h
  clear h
  go_wp2_with fail
  go_loopw [4] (fun s4 ws => ∃ i : Nat, i ≤ pn ∧ s4 = .int .i64 (i : Int) ∧ WAtG kc 32 ws pa (List.replicate i ph ++ l.drop i) ∧ Mod (InAd pa) w1 ws ∧ ws.heap[p2]? = some (.cells (shk pa pn ph pf) 213 (0, 0))) (fun s4 _ => pn - (intOf s4).toNat)
  case atStart => exact ⟨0, by omega, rfl, by simpa using hW, Mod.refl _ _, kp2⟩
  case round =>
    clear kp2
    obtain ⟨i, hi, rfl, hW2, hm, kp2⟩ := hrel
    by_cases hlt : i < pn
    · have hlen : (List.replicate i ph ++ l.drop i).length = pn := by simp; omega
      rcases id hW2 with hnil | ⟨g, o, C, U, ha, kl, hrow⟩
      · rw [hnil] at hlen; simp at hlen; omega
      · have HROW := Lib.hid hrow
        have hle := (hrow i _ (List.getElem?_eq_getElem (by omega))).2
        have hgp : p2 ≠ g := fun e => by
          subst e
          rcases HW0.out with h0 | ⟨g0, o0, C0, U0, ha0, kl0, _⟩
          · rw [h0] at hl
            simp at hl
            omega
          · rw [ha] at ha0
            cases ha0
            have := lt_size kl0
            omega
        have e1 := shK_h pa pn ph pf
        have HLEN := Lib.hid hlen
        have HL := Lib.hid hl
        clear hrow hW2 hlen hW hl
        subst ha
        go_upto_region 5 with fail
        have Lkl := lt_size kl
        have Lkp2 := lt_size kp2
        refine wp_pass0 (C := fun _ _ _ => False) (κ := fun i => [0, 1, 0, 0, 1, 0, 5].getD i 0) [0, 1, 2, 3, 4, 5, 6] (by kernel_rfl) (by kernel_rfl) (fun _ _ d _ _ h => by cases d <;> first | exact h | exact absurd h (hP _ _ _)) ?_
        (refine TD.val0 (v := ?v2) (by simp only [zA, zB, zC]; rfl) rfl ?hw2 (fun w1 => ?hy2) ?hn2; (case hw2 => rfl); (case hy2 => (go_simp; (try with_reducible rfl))); (try simp only [Act.put, zF, zG, zH]))
        (refine TD.load (v := ?v3) (p := ?p3) (Mod.refl _ _) (by simp only [zA, zB, zC]; rfl) rfl ?hw3 rfl ?hx3 (fun wq hSq => ?hy3) ?hn3; (case hw3 => rfl); (case hx3 => (simp only [Act.eval, zD, zA, zB, zC, zE]; (try rfl))); (case hy3 => (have klq := hSq.at kl (fun h => h); have kp2q := hSq.at kp2 (fun h => h); go_simp; (try with_reducible rfl))); (try simp only [Act.put, zF, zG, zH]))
        (refine TD.val0 (v := ?v4) (by simp only [zA, zB, zC]; rfl) rfl ?hw4 (fun w1 => ?hy4) ?hn4; (case hw4 => rfl); (case hy4 => (go_simp; (try with_reducible rfl))); (try simp only [Act.put, zF, zG, zH]))
        (refine TD.val0 (v := ?v5) (by simp only [zA, zB, zC]; rfl) rfl ?hw5 (fun w1 => ?hy5) ?hn5; (case hw5 => rfl); (case hy5 => (go_simp; (try with_reducible rfl))); (try simp only [Act.put, zF, zG, zH]))
        (refine TD.load (v := ?v6) (p := ?p6) (Mod.refl _ _) (by simp only [zA, zB, zC]; rfl) rfl ?hw6 rfl ?hx6 (fun wq hSq => ?hy6) ?hn6; (case hw6 => rfl); (case hx6 => (simp only [Act.eval, zD, zA, zB, zC, zE]; (try rfl))); (case hy6 => (have klq := hSq.at kl (fun h => h); have kp2q := hSq.at kp2 (fun h => h); go_simp; (try with_reducible rfl))); (try simp only [Act.put, zF, zG, zH]))
        (refine TD.val0 (v := ?v7) (by simp only [zA, zB, zC]; rfl) rfl ?hw7 (fun w1 => ?hy7) ?hn7; (case hw7 => rfl); (case hy7 => (go_simp; (try with_reducible rfl))); (try simp only [Act.put, zF, zG, zH]))
        refine TD.eff (by simp only [zA, zB, zC]; rfl) rfl (fun wE hr => ?_)
        replace kl := hr.mod.at0 kl
        replace kp2 := hr.mod.at0 kp2
        have mE := hr.mod
        (refine eff_store (X := ?X8) (Y := ?Y8) (w' := ?w8) (by simp only [zA, zB, zC]; rfl) ?hw8 rfl ?hx8 ?hz8 ?hy8 ?hn8; (case hw8 => rfl); (case hx8 => (simp only [Act.eval, zD, zA, zB, zC, zE]; (try rfl))); (case hz8 => (simp only [Act.eval, zD, zA, zB, zC, zE]; (try rfl))); (case hy8 => (go_simp; (try with_reducible rfl))))
        (first | refine TE.nil_set kl (fun w3 kl mS => ?_) | refine TE.nil_setCell kl (fun w3 kl mS => ?_))
        (try simp only [Array.setIfInBounds, zF, zG, zH] at kl)
        replace kp2 := mS.at_ne kp2 (by omega)
        rw [ite_wr2 (kc_size ph)] at kl
        have hrow2 := row_set kc_size HROW.out (i := i) (by rw [HLEN.out]; exact hlt) ph
        rw [set_repG (by rw [HL.out]; exact hlt)] at hrow2
        have HW3 : Hid (WAtG kc 32 w3 (some ⟨g, o, none⟩) (List.replicate (i + 1) ph ++ l.drop (i + 1))) := Lib.hid (.inr ⟨g, o, _, _, rfl, kl, hrow2⟩)
        have hm3 := (hm.then0 mE).then mS (fun j _ e => ⟨o, by rw [e]⟩)
        clear e1 kl hrow2 hm mS mE hle
        go_wp2_with fail
        go_roundw
        case rel => exact ⟨i + 1, by omega, by go_num, HW3.out, hm3, kp2⟩
        case measure => simp [intOf]; omega
    · obtain rfl : i = pn := by omega
      have HW2 : Hid (WAtG kc 32 wr pa (List.replicate i ph)) := Lib.hid (by
        have := hW2
        rw [List.drop_of_length_le (by omega), List.append_nil] at this
        exact this)
      clear hW2 hW
      go_wp2_with fail
      exact bodyPost_ret (v := .tuple #[]) (results_none rfl _ _ _) rfl ⟨rfl, HW2.out, (m1.mono (fun _ _ h => h.elim)).trans hm⟩
set_option maxRecDepth 20000 in
set_option maxHeartbeats 1600000 in
theorem sign1K_c (pa : Option Addr) (pn : Nat) (ph pf : Key) (hb : pn ≤ 900000) (hsl : ∀ w2, (Instr.sliceAt 37 (.slice pa pn pn) none (some (.int .i64 (pn : Int))) none).run Tryz.prog w2 = .ok (.slice pa pn pn) w2) (w : World) : Calls Tryz.prog 150 #[.agg (shk pa pn ph pf), .bool true] w fun e w' => e = .returned (.tuple #[]) ∧ Mod (fun _ => False) w w' := by
  go_enter Tryz.func150, Tryz.ntmps150
  go_upto_region 0 with fail
  refine wp_pass0 (C := fun _ _ _ => False) (κ := fun i => [3].getD i 0) [0] (by kernel_rfl) (by kernel_rfl) (fun _ _ d _ _ h => by cases d <;> first | exact h | exact absurd h (hP _ _ _)) ?_
  (refine TD.box (v := ?v9) (by simp only [zA, zB, zC]; rfl) rfl ?hw9 rfl rfl ?hx9 (fun p2 hp2 => ?hn9); (case hw9 => rfl); (case hx9 => (simp only [Act.eval, zD, zA, zB, zC, zE]; (try rfl))); (try simp only [Act.put, zF, zG, zH]))
  refine TD.nil (fun w1 hr => ?_)
  have kp2 := hr.box p2 _ (by first | exact Bx.set_same _ _ _ | (simp only [Bx.set_same]; rfl)); dsimp only [Value.cells] at kp2; obtain ⟨gp2, kp2⟩ := kp2
  have m1 := hr.mod
  go_upto_region 6 with fail
  have Lkp2 := lt_size kp2
  refine wp_pass0 (C := fun _ _ _ => False) (κ := fun i => [0, 1, 0, 1, 0, 0, 0].getD i 0) [0, 1, 2, 3, 4, 5, 6] (by kernel_rfl) (by kernel_rfl) (fun _ _ d _ _ h => by cases d <;> first | exact h | exact absurd h (hP _ _ _)) ?_
  (refine TD.val0 (v := ?v10) (by simp only [zA, zB, zC]; rfl) rfl ?hw10 (fun w1 => ?hy10) ?hn10; (case hw10 => rfl); (case hy10 => (go_simp; (try with_reducible rfl))); (try simp only [Act.put, zF, zG, zH]))
  (refine TD.load (v := ?v11) (p := ?p11) (Mod.refl _ _) (by simp only [zA, zB, zC]; rfl) rfl ?hw11 rfl ?hx11 (fun wq hSq => ?hy11) ?hn11; (case hw11 => rfl); (case hx11 => (simp only [Act.eval, zD, zA, zB, zC, zE]; (try rfl))); (case hy11 => (have kp2q := hSq.at kp2 (fun h => h); go_simp; (try with_reducible rfl))); (try simp only [Act.put, zF, zG, zH]))
  (refine TD.val0 (v := ?v12) (by simp only [zA, zB, zC]; rfl) rfl ?hw12 (fun w1 => ?hy12) ?hn12; (case hw12 => rfl); (case hy12 => (go_simp; (try with_reducible rfl))); (try simp only [Act.put, zF, zG, zH]))
  (refine TD.load (v := ?v13) (p := ?p13) (Mod.refl _ _) (by simp only [zA, zB, zC]; rfl) rfl ?hw13 rfl ?hx13 (fun wq hSq => ?hy13) ?hn13; (case hw13 => rfl); (case hx13 => (simp only [Act.eval, zD, zA, zB, zC, zE]; (try rfl))); (case hy13 => (have kp2q := hSq.at kp2 (fun h => h); go_simp; (try with_reducible rfl))); (try simp only [Act.put, zF, zG, zH]))
  (refine TD.val0 (v := ?v14) (by simp only [zA, zB, zC]; rfl) rfl ?hw14 (fun w1 => ?hy14) ?hn14; (case hw14 => rfl); (case hy14 => (go_simp; (try with_reducible rfl))); (try simp only [Act.put, zF, zG, zH]))
  (refine TD.slice (by simp only [zA, zB, zC]; rfl) rfl ?hw15 rfl ?hs15 ?hl15 ?hh15 ?hm15 hsl ?hn15; (case hw15 => rfl); (case hs15 => (simp only [Act.eval, zD, zA, zB, zC, zE]; (try rfl))); (case hl15 => first | rfl | (simp only [Option.map_some, Act.eval, zD, zA, zB, zC, zE]; (try rfl))); (case hh15 => first | rfl | (simp only [Option.map_some, Act.eval, zD, zA, zB, zC, zE]; (try rfl))); (case hm15 => rfl); (try simp only [Act.put, zF, zG, zH]))
  (refine TD.val0 (v := ?v16) (by simp only [zA, zB, zC]; rfl) rfl ?hw16 (fun w1 => ?hy16) ?hn16; (case hw16 => rfl); (case hy16 => (go_simp; (try with_reducible rfl))); (try simp only [Act.put, zF, zG, zH]))
  refine TD.nil (fun w2 hr => ?_)
  replace kp2 := hr.mod.at kp2 (fun h => h)
  have m2 := m1.then0 hr.mod
  go_wp2_with fail
  go_loopw [6] (fun s6 ws => s6 = .int .i64 (pn : Int) ∧ ws = w2) (fun _ _ => 0)
  case atStart => exact ⟨rfl, rfl⟩
  case round =>
    obtain ⟨rfl, rfl⟩ := hrel
    go_wp2_with fail
    go_end0
    exact ⟨rfl, m2⟩
set_option maxRecDepth 20000 in
set_option maxHeartbeats 1600000 in
theorem ownK_c (pa : Option Addr) (pn : Nat) (ph pf : Key) (hb : pn ≤ 900000) (hsl : ∀ w2, (Instr.sliceAt 37 (.slice pa pn pn) none (some (.int .i64 (pn : Int))) none).run Tryz.prog w2 = .ok (.slice pa pn pn) w2) (w : World) (h : WAtG kc 32 w pa (List.replicate pn ph)) : Calls Tryz.prog 149 #[.agg (shk pa pn ph pf)] w fun e w' => e = .returned (.bool true) ∧ Mod (fun _ => False) w w' := by
  have hs := h.sl
  clear h
  go_enter Tryz.func149, Tryz.ntmps149
  go_upto_region 0 with fail
  refine wp_pass0 (C := fun _ _ _ => False) (κ := fun i => [3, 0].getD i 0) [0, 1] (by kernel_rfl) (by kernel_rfl) (fun _ _ d _ _ h => by cases d <;> first | exact h | exact absurd h (hP _ _ _)) ?_
  (refine TD.box (v := ?v17) (by simp only [zA, zB, zC]; rfl) rfl ?hw17 rfl rfl ?hx17 (fun p1 hp1 => ?hn17); (case hw17 => rfl); (case hx17 => (simp only [Act.eval, zD, zA, zB, zC, zE]; (try rfl))); (try simp only [Act.put, zF, zG, zH]))
  (refine TD.val0 (v := ?v18) (by simp only [zA, zB, zC]; rfl) rfl ?hw18 (fun w1 => ?hy18) ?hn18; (case hw18 => rfl); (case hy18 => (go_simp; (try with_reducible rfl))); (try simp only [Act.put, zF, zG, zH]))
  refine TD.nil (fun w1 hr => ?_)
  have kp1 := hr.box p1 _ (by first | exact Bx.set_same _ _ _ | (simp only [Bx.set_same]; rfl)); dsimp only [Value.cells] at kp1; obtain ⟨gp1, kp1⟩ := kp1
  have m1 := hr.mod
  have hs1 := hs.mod0 hr.mod
  clear hs
  go_wp2_with fail
  go_loopw [3] (fun s3 ws => ∃ i : Nat, i ≤ pn ∧ s3 = .int .i64 (i : Int) ∧ Mod (fun _ => False) w1 ws) (fun s3 _ => pn - (intOf s3).toNat)
  case atStart => exact ⟨0, by omega, rfl, Mod.refl _ _⟩
  case round =>
    obtain ⟨i, hi, rfl, hm⟩ := hrel
    have kp1 := hm.at0 kp1
    by_cases hlt : i < pn
    · have hx : (List.replicate pn ph)[i]? = some ph := by rw [List.getElem?_replicate, if_pos hlt]
      obtain ⟨g, o, C, U, fr, ha, kl, he, hle⟩ := (hs1.mod0 hm).block hx
      have e1 := shK_h pa pn ph pf
      have HS1 := Lib.hid hs1
      have HSL := Lib.hid hsl
      clear hs1 hx hsl
      subst ha
      go_upto_region 4 with fail
      have Lkl := lt_size kl
      have Lkp1 := lt_size kp1
      refine wp_pass (C := fun _ _ _ => False) (κ := fun i => [0, 1, 0, 0, 1, 0, 1, 0].getD i 0) [0, 1, 2, 3, 4, 5, 6, 7] (by kernel_rfl) (by kernel_rfl) (fun _ _ d _ _ h => by cases d <;> first | exact h | exact absurd h (hP _ _ _)) ?_
      (refine TD.val0 (v := ?v19) (by simp only [zA, zB, zC]; rfl) rfl ?hw19 (fun w1 => ?hy19) ?hn19; (case hw19 => rfl); (case hy19 => (go_simp; (try with_reducible rfl))); (try simp only [Act.put, zF, zG, zH]))
      (refine TD.load (v := ?v20) (p := ?p20) (Mod.refl _ _) (by simp only [zA, zB, zC]; rfl) rfl ?hw20 rfl ?hx20 (fun wq hSq => ?hy20) ?hn20; (case hw20 => rfl); (case hx20 => (simp only [Act.eval, zD, zA, zB, zC, zE]; (try rfl))); (case hy20 => (have klq := hSq.at kl (fun h => h); have kp1q := hSq.at kp1 (fun h => h); go_simp; (try with_reducible rfl))); (try simp only [Act.put, zF, zG, zH]))
      (refine TD.val0 (v := ?v21) (by simp only [zA, zB, zC]; rfl) rfl ?hw21 (fun w1 => ?hy21) ?hn21; (case hw21 => rfl); (case hy21 => (go_simp; (try with_reducible rfl))); (try simp only [Act.put, zF, zG, zH]))
      (refine TD.val0 (v := ?v22) (by simp only [zA, zB, zC]; rfl) rfl ?hw22 (fun w1 => ?hy22) ?hn22; (case hw22 => rfl); (case hy22 => (go_simp; (try with_reducible rfl))); (try simp only [Act.put, zF, zG, zH]))
      (refine TD.load (v := ?v23) (p := ?p23) (Mod.refl _ _) (by simp only [zA, zB, zC]; rfl) rfl ?hw23 rfl ?hx23 (fun wq hSq => ?hy23) ?hn23; (case hw23 => rfl); (case hx23 => (simp only [Act.eval, zD, zA, zB, zC, zE]; (try rfl))); (case hy23 => (have klq := hSq.at kl (fun h => h); have kp1q := hSq.at kp1 (fun h => h); go_simp; (try with_reducible rfl))); (try simp only [Act.put, zF, zG, zH]))
      (refine TD.val0 (v := ?v24) (by simp only [zA, zB, zC]; rfl) rfl ?hw24 (fun w1 => ?hy24) ?hn24; (case hw24 => rfl); (case hy24 => (go_simp; (try with_reducible rfl))); (try simp only [Act.put, zF, zG, zH]))
      (refine TD.load (v := ?v25) (p := ?p25) (Mod.refl _ _) (by simp only [zA, zB, zC]; rfl) rfl ?hw25 rfl ?hx25 (fun wq hSq => ?hy25) ?hn25; (case hw25 => rfl); (case hx25 => (simp only [Act.eval, zD, zA, zB, zC, zE]; (try rfl))); (case hy25 => (have klq := hSq.at kl (fun h => h); have kp1q := hSq.at kp1 (fun h => h); go_simp; (try with_reducible rfl))); (try simp only [Act.put, zF, zG, zH]))
      (refine TD.val0 (v := ?v26) (by simp only [zA, zB, zC]; rfl) rfl ?hw26 (fun w1 => ?hy26) ?hn26; (case hw26 => rfl); (case hy26 => (go_simp; (try with_reducible rfl))); (try simp only [Act.put, zF, zG, zH]))
      refine TD.nil (fun w3 hr => ?_)
      replace kl := hr.mod.at kl (fun h => h)
      replace kp1 := hr.mod.at kp1 (fun h => h)
      have hm3 := hm.then0 hr.mod
      clear e1 he hle kl
      go_wp2_with fail
      go_roundw
      case rel => exact ⟨i + 1, by omega, by go_num, hm3⟩
      case measure => simp [intOf]; omega
    · obtain rfl : i = pn := by omega
      clear hs1
      go_upto_region 6 with fail
      have Lkp1 := lt_size kp1
      refine wp_pass0 (C := fun _ _ _ => False) (κ := fun i => [0, 1, 0, 1, 0, 0, 0].getD i 0) [0, 1, 2, 3, 4, 5, 6] (by kernel_rfl) (by kernel_rfl) (fun _ _ d _ _ h => by cases d <;> first | exact h | exact absurd h (hP _ _ _)) ?_
      (refine TD.val0 (v := ?v27) (by simp only [zA, zB, zC]; rfl) rfl ?hw27 (fun w1 => ?hy27) ?hn27; (case hw27 => rfl); (case hy27 => (go_simp; (try with_reducible rfl))); (try simp only [Act.put, zF, zG, zH]))
      (refine TD.load (v := ?v28) (p := ?p28) (Mod.refl _ _) (by simp only [zA, zB, zC]; rfl) rfl ?hw28 rfl ?hx28 (fun wq hSq => ?hy28) ?hn28; (case hw28 => rfl); (case hx28 => (simp only [Act.eval, zD, zA, zB, zC, zE]; (try rfl))); (case hy28 => (have kp1q := hSq.at kp1 (fun h => h); go_simp; (try with_reducible rfl))); (try simp only [Act.put, zF, zG, zH]))
      (refine TD.val0 (v := ?v29) (by simp only [zA, zB, zC]; rfl) rfl ?hw29 (fun w1 => ?hy29) ?hn29; (case hw29 => rfl); (case hy29 => (go_simp; (try with_reducible rfl))); (try simp only [Act.put, zF, zG, zH]))
      (refine TD.load (v := ?v30) (p := ?p30) (Mod.refl _ _) (by simp only [zA, zB, zC]; rfl) rfl ?hw30 rfl ?hx30 (fun wq hSq => ?hy30) ?hn30; (case hw30 => rfl); (case hx30 => (simp only [Act.eval, zD, zA, zB, zC, zE]; (try rfl))); (case hy30 => (have kp1q := hSq.at kp1 (fun h => h); go_simp; (try with_reducible rfl))); (try simp only [Act.put, zF, zG, zH]))
      (refine TD.val0 (v := ?v31) (by simp only [zA, zB, zC]; rfl) rfl ?hw31 (fun w1 => ?hy31) ?hn31; (case hw31 => rfl); (case hy31 => (go_simp; (try with_reducible rfl))); (try simp only [Act.put, zF, zG, zH]))
      (refine TD.slice (by simp only [zA, zB, zC]; rfl) rfl ?hw32 rfl ?hs32 ?hl32 ?hh32 ?hm32 hsl ?hn32; (case hw32 => rfl); (case hs32 => (simp only [Act.eval, zD, zA, zB, zC, zE]; (try rfl))); (case hl32 => first | rfl | (simp only [Option.map_some, Act.eval, zD, zA, zB, zC, zE]; (try rfl))); (case hh32 => first | rfl | (simp only [Option.map_some, Act.eval, zD, zA, zB, zC, zE]; (try rfl))); (case hm32 => rfl); (try simp only [Act.put, zF, zG, zH]))
      (refine TD.val0 (v := ?v33) (by simp only [zA, zB, zC]; rfl) rfl ?hw33 (fun w1 => ?hy33) ?hn33; (case hw33 => rfl); (case hy33 => (go_simp; (try with_reducible rfl))); (try simp only [Act.put, zF, zG, zH]))
      refine TD.nil (fun w2 hr => ?_)
      replace kp1 := hr.mod.at kp1 (fun h => h)
      have m2 := (m1.then0 hm).then0 hr.mod
      go_wp2_with fail
      go_loopw [5] (fun s5 ws => s5 = .int .i64 (i : Int) ∧ ws = w2) (fun _ _ => 0)
      case atStart => exact ⟨rfl, rfl⟩
      case round =>
        obtain ⟨rfl, rfl⟩ := hrel
        go_wp2_with fail
        go_ret
        exact ⟨rfl, m2⟩
theorem shS_size (a : Option Addr) (n : Nat) (h f : Sg) : (shs a n h f).size = 129 := by simp [shs, sgc_size]
theorem shS_h (a : Option Addr) (n : Nat) (h f : Sg) : (shs a n h f).extract 1 (1 + 64) = sgc h := extract_app (n := 1) (m := 64) rfl (sgc_size _)
theorem shS_h' (a : Option Addr) (n : Nat) (h f : Sg) : (shs a n h f).extract 1 65 = sgc h := shS_h a n h f
theorem shS_0 (a : Option Addr) (n : Nat) (h f : Sg) : (shs a n h f)[0]? = some (.slice a n n) := by
  unfold shs
  rw [Array.getElem?_append_left (by simp)]
  rfl
theorem shS_0' {a : Option Addr} {n : Nat} {h f : Sg} (hi : 0 < (shs a n h f).size) : (shs a n h f)[0] = .slice a n n := at_get (shS_0 ..) hi
attribute [local go_sem] shS_size shS_0 shS_0' shS_h shS_h'
set_option maxRecDepth 20000 in
set_option maxHeartbeats 1600000 in
theorem sign0S_c (pa : Option Addr) (pn : Nat) (ph pf : Sg) (l : List Sg) (hl : l.length = pn) (hb : pn ≤ 900000) (w : World) (h : WAtG sgc 64 w pa l) : Calls Tryz.prog 147 #[.agg (shs pa pn ph pf), .bool false] w fun e w' => e = .returned (.tuple #[]) ∧ WAtG sgc 64 w' pa (List.replicate pn ph) ∧ Mod (InAd pa) w w' := by
  go_enter Tryz.func147, Tryz.ntmps147
  go_upto_region 0 with fail
  refine wp_pass0 (C := fun _ _ _ => False) (κ := fun i => [3].getD i 0) [0] (by kernel_rfl) (by kernel_rfl) (fun _ _ d _ _ h => by cases d <;> first | exact h | exact absurd h (hP _ _ _)) ?_
  (refine TD.box (v := ?v34) (by simp only [zA, zB, zC]; rfl) rfl ?hw34 rfl rfl ?hx34 (fun p2 hp2 => ?hn34); (case hw34 => rfl); (case hx34 => (simp only [Act.eval, zD, zA, zB, zC, zE]; (try rfl))); (try simp only [Act.put, zF, zG, zH]))
  refine TD.nil (fun w1 hr => ?_)
  have kp2 := hr.box p2 _ (by first | exact Bx.set_same _ _ _ | (simp only [Bx.set_same]; rfl)); dsimp only [Value.cells] at kp2; obtain ⟨gp2, kp2⟩ := kp2
  have m1 := hr.mod
  have hW := h.mod m1 (fun _ _ _ h => h)
  have HW0 := Lib.hid h
  clear h
  go_wp2_with fail
  go_loopw [4] (fun s4 ws => ∃ i : Nat, i ≤ pn ∧ s4 = .int .i64 (i : Int) ∧ WAtG sgc 64 ws pa (List.replicate i ph ++ l.drop i) ∧ Mod (InAd pa) w1 ws ∧ ws.heap[p2]? = some (.cells (shs pa pn ph pf) 160 (0, 0))) (fun s4 _ => pn - (intOf s4).toNat)
  case atStart => exact ⟨0, by omega, rfl, by simpa using hW, Mod.refl _ _, kp2⟩
  case round =>
    clear kp2
    obtain ⟨i, hi, rfl, hW2, hm, kp2⟩ := hrel
    by_cases hlt : i < pn
    · have hlen : (List.replicate i ph ++ l.drop i).length = pn := by simp; omega
      rcases id hW2 with hnil | ⟨g, o, C, U, ha, kl, hrow⟩
      · rw [hnil] at hlen; simp at hlen; omega
      · have HROW := Lib.hid hrow
        have hle := (hrow i _ (List.getElem?_eq_getElem (by omega))).2
        have hgp : p2 ≠ g := fun e => by
          subst e
          rcases HW0.out with h0 | ⟨g0, o0, C0, U0, ha0, kl0, _⟩
          · rw [h0] at hl
            simp at hl
            omega
          · rw [ha] at ha0
            cases ha0
            have := lt_size kl0
            omega
        have e1 := shS_h pa pn ph pf
        have HLEN := Lib.hid hlen
        have HL := Lib.hid hl
        clear hrow hW2 hlen hW hl
        subst ha
        go_upto_region 5 with fail
        have Lkl := lt_size kl
        have Lkp2 := lt_size kp2
        refine wp_pass0 (C := fun _ _ _ => False) (κ := fun i => [0, 1, 0, 0, 1, 0, 5].getD i 0) [0, 1, 2, 3, 4, 5, 6] (by kernel_rfl) (by kernel_rfl) (fun _ _ d _ _ h => by cases d <;> first | exact h | exact absurd h (hP _ _ _)) ?_
        (refine TD.val0 (v := ?v35) (by simp only [zA, zB, zC]; rfl) rfl ?hw35 (fun w1 => ?hy35) ?hn35; (case hw35 => rfl); (case hy35 => (go_simp; (try with_reducible rfl))); (try simp only [Act.put, zF, zG, zH]))
        (refine TD.load (v := ?v36) (p := ?p36) (Mod.refl _ _) (by simp only [zA, zB, zC]; rfl) rfl ?hw36 rfl ?hx36 (fun wq hSq => ?hy36) ?hn36; (case hw36 => rfl); (case hx36 => (simp only [Act.eval, zD, zA, zB, zC, zE]; (try rfl))); (case hy36 => (have klq := hSq.at kl (fun h => h); have kp2q := hSq.at kp2 (fun h => h); go_simp; (try with_reducible rfl))); (try simp only [Act.put, zF, zG, zH]))
        (refine TD.val0 (v := ?v37) (by simp only [zA, zB, zC]; rfl) rfl ?hw37 (fun w1 => ?hy37) ?hn37; (case hw37 => rfl); (case hy37 => (go_simp; (try with_reducible rfl))); (try simp only [Act.put, zF, zG, zH]))
        (refine TD.val0 (v := ?v38) (by simp only [zA, zB, zC]; rfl) rfl ?hw38 (fun w1 => ?hy38) ?hn38; (case hw38 => rfl); (case hy38 => (go_simp; (try with_reducible rfl))); (try simp only [Act.put, zF, zG, zH]))
        (refine TD.load (v := ?v39) (p := ?p39) (Mod.refl _ _) (by simp only [zA, zB, zC]; rfl) rfl ?hw39 rfl ?hx39 (fun wq hSq => ?hy39) ?hn39; (case hw39 => rfl); (case hx39 => (simp only [Act.eval, zD, zA, zB, zC, zE]; (try rfl))); (case hy39 => (have klq := hSq.at kl (fun h => h); have kp2q := hSq.at kp2 (fun h => h); go_simp; (try with_reducible rfl))); (try simp only [Act.put, zF, zG, zH]))
        (refine TD.val0 (v := ?v40) (by simp only [zA, zB, zC]; rfl) rfl ?hw40 (fun w1 => ?hy40) ?hn40; (case hw40 => rfl); (case hy40 => (go_simp; (try with_reducible rfl))); (try simp only [Act.put, zF, zG, zH]))
        refine TD.eff (by simp only [zA, zB, zC]; rfl) rfl (fun wE hr => ?_)
        replace kl := hr.mod.at0 kl
        replace kp2 := hr.mod.at0 kp2
        have mE := hr.mod
        (refine eff_store (X := ?X41) (Y := ?Y41) (w' := ?w41) (by simp only [zA, zB, zC]; rfl) ?hw41 rfl ?hx41 ?hz41 ?hy41 ?hn41; (case hw41 => rfl); (case hx41 => (simp only [Act.eval, zD, zA, zB, zC, zE]; (try rfl))); (case hz41 => (simp only [Act.eval, zD, zA, zB, zC, zE]; (try rfl))); (case hy41 => (go_simp; (try with_reducible rfl))))
        (first | refine TE.nil_set kl (fun w3 kl mS => ?_) | refine TE.nil_setCell kl (fun w3 kl mS => ?_))
        (try simp only [Array.setIfInBounds, zF, zG, zH] at kl)
        replace kp2 := mS.at_ne kp2 (by omega)
        rw [ite_wr2 (sgc_size ph)] at kl
        have hrow2 := row_set sgc_size HROW.out (i := i) (by rw [HLEN.out]; exact hlt) ph
        rw [set_repG (by rw [HL.out]; exact hlt)] at hrow2
        have HW3 : Hid (WAtG sgc 64 w3 (some ⟨g, o, none⟩) (List.replicate (i + 1) ph ++ l.drop (i + 1))) := Lib.hid (.inr ⟨g, o, _, _, rfl, kl, hrow2⟩)
        have hm3 := (hm.then0 mE).then mS (fun j _ e => ⟨o, by rw [e]⟩)
        clear e1 kl hrow2 hm mS mE hle
        go_wp2_with fail
        go_roundw
        case rel => exact ⟨i + 1, by omega, by go_num, HW3.out, hm3, kp2⟩
        case measure => simp [intOf]; omega
    · obtain rfl : i = pn := by omega
      have HW2 : Hid (WAtG sgc 64 wr pa (List.replicate i ph)) := Lib.hid (by
        have := hW2
        rw [List.drop_of_length_le (by omega), List.append_nil] at this
        exact this)
      clear hW2 hW
      go_wp2_with fail
      exact bodyPost_ret (v := .tuple #[]) (results_none rfl _ _ _) rfl ⟨rfl, HW2.out, (m1.mono (fun _ _ h => h.elim)).trans hm⟩
set_option maxRecDepth 20000 in
set_option maxHeartbeats 1600000 in
theorem sign1S_c (pa : Option Addr) (pn : Nat) (ph pf : Sg) (hb : pn ≤ 900000) (hsl : ∀ w2, (Instr.sliceAt 34 (.slice pa pn pn) none (some (.int .i64 (pn : Int))) none).run Tryz.prog w2 = .ok (.slice pa pn pn) w2) (w : World) : Calls Tryz.prog 147 #[.agg (shs pa pn ph pf), .bool true] w fun e w' => e = .returned (.tuple #[]) ∧ Mod (fun _ => False) w w' := by
  go_enter Tryz.func147, Tryz.ntmps147
  go_upto_region 0 with fail
  refine wp_pass0 (C := fun _ _ _ => False) (κ := fun i => [3].getD i 0) [0] (by kernel_rfl) (by kernel_rfl) (fun _ _ d _ _ h => by cases d <;> first | exact h | exact absurd h (hP _ _ _)) ?_
  (refine TD.box (v := ?v42) (by simp only [zA, zB, zC]; rfl) rfl ?hw42 rfl rfl ?hx42 (fun p2 hp2 => ?hn42); (case hw42 => rfl); (case hx42 => (simp only [Act.eval, zD, zA, zB, zC, zE]; (try rfl))); (try simp only [Act.put, zF, zG, zH]))
  refine TD.nil (fun w1 hr => ?_)
  have kp2 := hr.box p2 _ (by first | exact Bx.set_same _ _ _ | (simp only [Bx.set_same]; rfl)); dsimp only [Value.cells] at kp2; obtain ⟨gp2, kp2⟩ := kp2
  have m1 := hr.mod
  go_upto_region 6 with fail
  have Lkp2 := lt_size kp2
  refine wp_pass0 (C := fun _ _ _ => False) (κ := fun i => [0, 1, 0, 1, 0, 0, 0].getD i 0) [0, 1, 2, 3, 4, 5, 6] (by kernel_rfl) (by kernel_rfl) (fun _ _ d _ _ h => by cases d <;> first | exact h | exact absurd h (hP _ _ _)) ?_
  (refine TD.val0 (v := ?v43) (by simp only [zA, zB, zC]; rfl) rfl ?hw43 (fun w1 => ?hy43) ?hn43; (case hw43 => rfl); (case hy43 => (go_simp; (try with_reducible rfl))); (try simp only [Act.put, zF, zG, zH]))
  (refine TD.load (v := ?v44) (p := ?p44) (Mod.refl _ _) (by simp only [zA, zB, zC]; rfl) rfl ?hw44 rfl ?hx44 (fun wq hSq => ?hy44) ?hn44; (case hw44 => rfl); (case hx44 => (simp only [Act.eval, zD, zA, zB, zC, zE]; (try rfl))); (case hy44 => (have kp2q := hSq.at kp2 (fun h => h); go_simp; (try with_reducible rfl))); (try simp only [Act.put, zF, zG, zH]))
  (refine TD.val0 (v := ?v45) (by simp only [zA, zB, zC]; rfl) rfl ?hw45 (fun w1 => ?hy45) ?hn45; (case hw45 => rfl); (case hy45 => (go_simp; (try with_reducible rfl))); (try simp only [Act.put, zF, zG, zH]))
  (refine TD.load (v := ?v46) (p := ?p46) (Mod.refl _ _) (by simp only [zA, zB, zC]; rfl) rfl ?hw46 rfl ?hx46 (fun wq hSq => ?hy46) ?hn46; (case hw46 => rfl); (case hx46 => (simp only [Act.eval, zD, zA, zB, zC, zE]; (try rfl))); (case hy46 => (have kp2q := hSq.at kp2 (fun h => h); go_simp; (try with_reducible rfl))); (try simp only [Act.put, zF, zG, zH]))
  (refine TD.val0 (v := ?v47) (by simp only [zA, zB, zC]; rfl) rfl ?hw47 (fun w1 => ?hy47) ?hn47; (case hw47 => rfl); (case hy47 => (go_simp; (try with_reducible rfl))); (try simp only [Act.put, zF, zG, zH]))
  (refine TD.slice (by simp only [zA, zB, zC]; rfl) rfl ?hw48 rfl ?hs48 ?hl48 ?hh48 ?hm48 hsl ?hn48; (case hw48 => rfl); (case hs48 => (simp only [Act.eval, zD, zA, zB, zC, zE]; (try rfl))); (case hl48 => first | rfl | (simp only [Option.map_some, Act.eval, zD, zA, zB, zC, zE]; (try rfl))); (case hh48 => first | rfl | (simp only [Option.map_some, Act.eval, zD, zA, zB, zC, zE]; (try rfl))); (case hm48 => rfl); (try simp only [Act.put, zF, zG, zH]))
  (refine TD.val0 (v := ?v49) (by simp only [zA, zB, zC]; rfl) rfl ?hw49 (fun w1 => ?hy49) ?hn49; (case hw49 => rfl); (case hy49 => (go_simp; (try with_reducible rfl))); (try simp only [Act.put, zF, zG, zH]))
  refine TD.nil (fun w2 hr => ?_)
  replace kp2 := hr.mod.at kp2 (fun h => h)
  have m2 := m1.then0 hr.mod
  go_wp2_with fail
  go_loopw [6] (fun s6 ws => s6 = .int .i64 (pn : Int) ∧ ws = w2) (fun _ _ => 0)
  case atStart => exact ⟨rfl, rfl⟩
  case round =>
    obtain ⟨rfl, rfl⟩ := hrel
    go_wp2_with fail
    go_end0
    exact ⟨rfl, m2⟩
set_option maxRecDepth 20000 in
set_option maxHeartbeats 1600000 in
theorem ownS_c (pa : Option Addr) (pn : Nat) (ph pf : Sg) (hb : pn ≤ 900000) (hsl : ∀ w2, (Instr.sliceAt 34 (.slice pa pn pn) none (some (.int .i64 (pn : Int))) none).run Tryz.prog w2 = .ok (.slice pa pn pn) w2) (w : World) (h : WAtG sgc 64 w pa (List.replicate pn ph)) : Calls Tryz.prog 146 #[.agg (shs pa pn ph pf)] w fun e w' => e = .returned (.bool true) ∧ Mod (fun _ => False) w w' := by
  have hs := h.sl
  clear h
  go_enter Tryz.func146, Tryz.ntmps146
  go_upto_region 0 with fail
  refine wp_pass0 (C := fun _ _ _ => False) (κ := fun i => [3, 0].getD i 0) [0, 1] (by kernel_rfl) (by kernel_rfl) (fun _ _ d _ _ h => by cases d <;> first | exact h | exact absurd h (hP _ _ _)) ?_
  (refine TD.box (v := ?v50) (by simp only [zA, zB, zC]; rfl) rfl ?hw50 rfl rfl ?hx50 (fun p1 hp1 => ?hn50); (case hw50 => rfl); (case hx50 => (simp only [Act.eval, zD, zA, zB, zC, zE]; (try rfl))); (try simp only [Act.put, zF, zG, zH]))
  (refine TD.val0 (v := ?v51) (by simp only [zA, zB, zC]; rfl) rfl ?hw51 (fun w1 => ?hy51) ?hn51; (case hw51 => rfl); (case hy51 => (go_simp; (try with_reducible rfl))); (try simp only [Act.put, zF, zG, zH]))
  refine TD.nil (fun w1 hr => ?_)
  have kp1 := hr.box p1 _ (by first | exact Bx.set_same _ _ _ | (simp only [Bx.set_same]; rfl)); dsimp only [Value.cells] at kp1; obtain ⟨gp1, kp1⟩ := kp1
  have m1 := hr.mod
  have hs1 := hs.mod0 hr.mod
  clear hs
  go_wp2_with fail
  go_loopw [3] (fun s3 ws => ∃ i : Nat, i ≤ pn ∧ s3 = .int .i64 (i : Int) ∧ Mod (fun _ => False) w1 ws) (fun s3 _ => pn - (intOf s3).toNat)
  case atStart => exact ⟨0, by omega, rfl, Mod.refl _ _⟩
  case round =>
    obtain ⟨i, hi, rfl, hm⟩ := hrel
    have kp1 := hm.at0 kp1
    by_cases hlt : i < pn
    · have hx : (List.replicate pn ph)[i]? = some ph := by rw [List.getElem?_replicate, if_pos hlt]
      obtain ⟨g, o, C, U, fr, ha, kl, he, hle⟩ := (hs1.mod0 hm).block hx
      have e1 := shS_h pa pn ph pf
      have HS1 := Lib.hid hs1
      have HSL := Lib.hid hsl
      clear hs1 hx hsl
      subst ha
      go_upto_region 4 with fail
      have Lkl := lt_size kl
      have Lkp1 := lt_size kp1
      refine wp_pass (C := fun _ _ _ => False) (κ := fun i => [0, 1, 0, 0, 1, 0, 1, 0].getD i 0) [0, 1, 2, 3, 4, 5, 6, 7] (by kernel_rfl) (by kernel_rfl) (fun _ _ d _ _ h => by cases d <;> first | exact h | exact absurd h (hP _ _ _)) ?_
      (refine TD.val0 (v := ?v52) (by simp only [zA, zB, zC]; rfl) rfl ?hw52 (fun w1 => ?hy52) ?hn52; (case hw52 => rfl); (case hy52 => (go_simp; (try with_reducible rfl))); (try simp only [Act.put, zF, zG, zH]))
      (refine TD.load (v := ?v53) (p := ?p53) (Mod.refl _ _) (by simp only [zA, zB, zC]; rfl) rfl ?hw53 rfl ?hx53 (fun wq hSq => ?hy53) ?hn53; (case hw53 => rfl); (case hx53 => (simp only [Act.eval, zD, zA, zB, zC, zE]; (try rfl))); (case hy53 => (have klq := hSq.at kl (fun h => h); have kp1q := hSq.at kp1 (fun h => h); go_simp; (try with_reducible rfl))); (try simp only [Act.put, zF, zG, zH]))
      (refine TD.val0 (v := ?v54) (by simp only [zA, zB, zC]; rfl) rfl ?hw54 (fun w1 => ?hy54) ?hn54; (case hw54 => rfl); (case hy54 => (go_simp; (try with_reducible rfl))); (try simp only [Act.put, zF, zG, zH]))
      (refine TD.val0 (v := ?v55) (by simp only [zA, zB, zC]; rfl) rfl ?hw55 (fun w1 => ?hy55) ?hn55; (case hw55 => rfl); (case hy55 => (go_simp; (try with_reducible rfl))); (try simp only [Act.put, zF, zG, zH]))
      (refine TD.load (v := ?v56) (p := ?p56) (Mod.refl _ _) (by simp only [zA, zB, zC]; rfl) rfl ?hw56 rfl ?hx56 (fun wq hSq => ?hy56) ?hn56; (case hw56 => rfl); (case hx56 => (simp only [Act.eval, zD, zA, zB, zC, zE]; (try rfl))); (case hy56 => (have klq := hSq.at kl (fun h => h); have kp1q := hSq.at kp1 (fun h => h); go_simp; (try with_reducible rfl))); (try simp only [Act.put, zF, zG, zH]))
      (refine TD.val0 (v := ?v57) (by simp only [zA, zB, zC]; rfl) rfl ?hw57 (fun w1 => ?hy57) ?hn57; (case hw57 => rfl); (case hy57 => (go_simp; (try with_reducible rfl))); (try simp only [Act.put, zF, zG, zH]))
      (refine TD.load (v := ?v58) (p := ?p58) (Mod.refl _ _) (by simp only [zA, zB, zC]; rfl) rfl ?hw58 rfl ?hx58 (fun wq hSq => ?hy58) ?hn58; (case hw58 => rfl); (case hx58 => (simp only [Act.eval, zD, zA, zB, zC, zE]; (try rfl))); (case hy58 => (have klq := hSq.at kl (fun h => h); have kp1q := hSq.at kp1 (fun h => h); go_simp; (try with_reducible rfl))); (try simp only [Act.put, zF, zG, zH]))
      (refine TD.val0 (v := ?v59) (by simp only [zA, zB, zC]; rfl) rfl ?hw59 (fun w1 => ?hy59) ?hn59; (case hw59 => rfl); (case hy59 => (go_simp; (try with_reducible rfl))); (try simp only [Act.put, zF, zG, zH]))
      refine TD.nil (fun w3 hr => ?_)
      replace kl := hr.mod.at kl (fun h => h)
      replace kp1 := hr.mod.at kp1 (fun h => h)
      have hm3 := hm.then0 hr.mod
      clear e1 he hle kl
      go_wp2_with fail
      go_roundw
      case rel => exact ⟨i + 1, by omega, by go_num, hm3⟩
      case measure => simp [intOf]; omega
    · obtain rfl : i = pn := by omega
      clear hs1
      go_upto_region 6 with fail
      have Lkp1 := lt_size kp1
      refine wp_pass0 (C := fun _ _ _ => False) (κ := fun i => [0, 1, 0, 1, 0, 0, 0].getD i 0) [0, 1, 2, 3, 4, 5, 6] (by kernel_rfl) (by kernel_rfl) (fun _ _ d _ _ h => by cases d <;> first | exact h | exact absurd h (hP _ _ _)) ?_
      (refine TD.val0 (v := ?v60) (by simp only [zA, zB, zC]; rfl) rfl ?hw60 (fun w1 => ?hy60) ?hn60; (case hw60 => rfl); (case hy60 => (go_simp; (try with_reducible rfl))); (try simp only [Act.put, zF, zG, zH]))
      (refine TD.load (v := ?v61) (p := ?p61) (Mod.refl _ _) (by simp only [zA, zB, zC]; rfl) rfl ?hw61 rfl ?hx61 (fun wq hSq => ?hy61) ?hn61; (case hw61 => rfl); (case hx61 => (simp only [Act.eval, zD, zA, zB, zC, zE]; (try rfl))); (case hy61 => (have kp1q := hSq.at kp1 (fun h => h); go_simp; (try with_reducible rfl))); (try simp only [Act.put, zF, zG, zH]))
      (refine TD.val0 (v := ?v62) (by simp only [zA, zB, zC]; rfl) rfl ?hw62 (fun w1 => ?hy62) ?hn62; (case hw62 => rfl); (case hy62 => (go_simp; (try with_reducible rfl))); (try simp only [Act.put, zF, zG, zH]))
      (refine TD.load (v := ?v63) (p := ?p63) (Mod.refl _ _) (by simp only [zA, zB, zC]; rfl) rfl ?hw63 rfl ?hx63 (fun wq hSq => ?hy63) ?hn63; (case hw63 => rfl); (case hx63 => (simp only [Act.eval, zD, zA, zB, zC, zE]; (try rfl))); (case hy63 => (have kp1q := hSq.at kp1 (fun h => h); go_simp; (try with_reducible rfl))); (try simp only [Act.put, zF, zG, zH]))
      (refine TD.val0 (v := ?v64) (by simp only [zA, zB, zC]; rfl) rfl ?hw64 (fun w1 => ?hy64) ?hn64; (case hw64 => rfl); (case hy64 => (go_simp; (try with_reducible rfl))); (try simp only [Act.put, zF, zG, zH]))
      (refine TD.slice (by simp only [zA, zB, zC]; rfl) rfl ?hw65 rfl ?hs65 ?hl65 ?hh65 ?hm65 hsl ?hn65; (case hw65 => rfl); (case hs65 => (simp only [Act.eval, zD, zA, zB, zC, zE]; (try rfl))); (case hl65 => first | rfl | (simp only [Option.map_some, Act.eval, zD, zA, zB, zC, zE]; (try rfl))); (case hh65 => first | rfl | (simp only [Option.map_some, Act.eval, zD, zA, zB, zC, zE]; (try rfl))); (case hm65 => rfl); (try simp only [Act.put, zF, zG, zH]))
      (refine TD.val0 (v := ?v66) (by simp only [zA, zB, zC]; rfl) rfl ?hw66 (fun w1 => ?hy66) ?hn66; (case hw66 => rfl); (case hy66 => (go_simp; (try with_reducible rfl))); (try simp only [Act.put, zF, zG, zH]))
      refine TD.nil (fun w2 hr => ?_)
      replace kp1 := hr.mod.at kp1 (fun h => h)
      have m2 := (m1.then0 hm).then0 hr.mod
      go_wp2_with fail
      go_loopw [5] (fun s5 ws => s5 = .int .i64 (i : Int) ∧ ws = w2) (fun _ _ => 0)
      case atStart => exact ⟨rfl, rfl⟩
      case round =>
        obtain ⟨rfl, rfl⟩ := hrel
        go_wp2_with fail
        go_ret
        exact ⟨rfl, m2⟩
end Go.Proofs.YtofpnmoeimjnnaaGreat
namespace Go.Proofs.YtofpnmoeimjnnaaGreat
open Go.RowKit
open Go.ChangeMaps (setBlock)
set_option linter.unusedSimpArgs false
set_option linter.unusedVariables false
attribute [local go_sem] cell_blk frozen_blk one_int one_bool one_ptr one_slice one_map Value.cells
theorem wy_get {w : World} {a : Option Addr} {l : List UInt8} (h : WAtG uc 1 w a l) : l = [] ∨ ∃ b o C U, a = some ⟨b, o, none⟩ ∧ w.heap[b]? = some (.cells C U (0, 0)) ∧ ∀ j y, l[j]? = some y → C[o + j]? = some (.int .u8 (y.toNat : Int)) := by
  rcases h with h | ⟨b, o, C, U, h1, h2, h3⟩
  · exact .inl h
  · refine .inr ⟨b, o, C, U, h1, h2, fun j y hy => ?_⟩
    obtain ⟨h4, h5⟩ := h3 j y hy
    have h0 := congrArg (fun A : Array Value => A[0]?) h4
    simp only [Nat.mul_one] at h0 h5
    rw [Array.getElem?_extract, if_pos (by omega)] at h0
    simpa [uc] using h0
theorem wy_of {w : World} {l : List UInt8} {b o : Nat} {C : Array Value} {U : TypeId} (h2 : w.heap[b]? = some (.cells C U (0, 0))) (h3 : ∀ j y, l[j]? = some y → C[o + j]? = some (.int .u8 (y.toNat : Int))) : WAtG uc 1 w (some ⟨b, o, none⟩) l := by
  refine .inr ⟨b, o, C, U, rfl, h2, fun j y hy => ?_⟩
  have h4 := h3 j y hy
  have h5 := (Array.getElem?_eq_some_iff.1 h4).1
  rw [Nat.mul_one]
  refine ⟨?_, by omega⟩
  apply Array.ext_getElem?
  intro t
  rw [Array.getElem?_extract]
  cases t with
  | zero =>
    rw [if_pos (by omega), Nat.add_zero, h4]
    rfl
  | succ t =>
    rw [if_neg (by omega)]
    rfl
theorem shy_0 (a : Option Addr) (n : Nat) (h f : UInt8) : (shy a n h f)[0]? = some (.slice a n n) := rfl
theorem shy_1 (a : Option Addr) (n : Nat) (h f : UInt8) : (shy a n h f)[1]? = some (.int .u8 (h.toNat : Int)) := rfl
theorem shy_2 (a : Option Addr) (n : Nat) (h f : UInt8) : (shy a n h f)[2]? = some (.int .u8 (f.toNat : Int)) := rfl
theorem shy_0' {a : Option Addr} {n : Nat} {h f : UInt8} (hi : 0 < (shy a n h f).size) : (shy a n h f)[0] = .slice a n n := rfl
theorem shy_1' {a : Option Addr} {n : Nat} {h f : UInt8} (hi : 1 < (shy a n h f).size) : (shy a n h f)[1] = .int .u8 (h.toNat : Int) := rfl
attribute [local go_sem] shy_0 shy_1 shy_2 shy_0' shy_1'
set_option maxRecDepth 20000 in
set_option maxHeartbeats 1600000 in
theorem sign0Y_c (pa : Option Addr) (pn : Nat) (ph pf : UInt8) (l : List UInt8) (hl : l.length = pn) (hb : pn ≤ 900000) (w : World) (h : WAtG uc 1 w pa l) : Calls Tryz.prog 152 #[.agg (shy pa pn ph pf), .bool false] w fun e w' => e = .returned (.tuple #[]) ∧ WAtG uc 1 w' pa (List.replicate pn ph) ∧ Mod (InAd pa) w w' := by
  go_enter Tryz.func152, Tryz.ntmps152
  go_upto_region 0 with fail
  refine wp_pass0 (C := fun _ _ _ => False) (κ := fun i => [3].getD i 0) [0] (by kernel_rfl) (by kernel_rfl) (fun _ _ d _ _ h => by cases d <;> first | exact h | exact absurd h (hP _ _ _)) ?_
  (refine TD.box (v := ?v1) (by simp only [zA, zB, zC]; rfl) rfl ?hw1 rfl rfl ?hx1 (fun p2 hp2 => ?hn1); (case hw1 => rfl); (case hx1 => (simp only [Act.eval, zD, zA, zB, zC, zE]; (try rfl))); (try simp only [Act.put, zF, zG, zH]))
  refine TD.nil (fun w1 hr => ?_)
  have kp2 := hr.box p2 _ (by first | exact Bx.set_same _ _ _ | (simp only [Bx.set_same]; rfl)); dsimp only [Value.cells] at kp2; obtain ⟨gp2, kp2⟩ := kp2
  have m1 := hr.mod
  have hW := h.mod m1 (fun _ _ _ h => h)
  have HW0 := Lib.hid h
  replace kp2 : w1.heap[p2]? = some (.cells (shy pa pn ph pf) 215 (0, 0)) := kp2
  clear h
  go_wp2_with fail
  go_loopw [4] (fun s4 ws => ∃ i : Nat, i ≤ pn ∧ s4 = .int .i64 (i : Int) ∧ WAtG uc 1 ws pa (List.replicate i ph ++ l.drop i) ∧ Mod (InAd pa) w1 ws ∧ ws.heap[p2]? = some (.cells (shy pa pn ph pf) 215 (0, 0))) (fun s4 _ => pn - (intOf s4).toNat)
  case atStart => exact ⟨0, by omega, rfl, by simpa using hW, Mod.refl _ _, kp2⟩
  case round =>
    clear kp2
    obtain ⟨i, hi, rfl, hW2, hm, kp2⟩ := hrel
    by_cases hlt : i < pn
    · have hlen : (List.replicate i ph ++ l.drop i).length = pn := by simp; omega
      rcases wy_get hW2 with hnil | ⟨g, o, C, U, ha, kl, hrow⟩
      · rw [hnil] at hlen; simp at hlen; omega
      · have HROW := Lib.hid hrow
        have hci := hrow i _ (List.getElem?_eq_getElem (by omega))
        have hci2 : o + i < C.size := (Array.getElem?_eq_some_iff.1 hci).1
        have hgp : p2 ≠ g := fun e => by
          subst e
          rcases HW0.out with h0 | ⟨g0, o0, C0, U0, ha0, kl0, _⟩
          · rw [h0] at hl
            simp at hl
            omega
          · rw [ha] at ha0
            cases ha0
            have := lt_size kl0
            omega
        have HLEN := Lib.hid hlen
        have HL := Lib.hid hl
        clear hrow hW2 hlen hW hl hci
        subst ha
        go_upto_region 5 with fail
        have Lkl := lt_size kl
        have Lkp2 := lt_size kp2
        refine wp_pass0 (C := fun _ _ _ => False) (κ := fun i => [0, 1, 0, 0, 1, 0, 5].getD i 0) [0, 1, 2, 3, 4, 5, 6] (by kernel_rfl) (by kernel_rfl) (fun _ _ d _ _ h => by cases d <;> first | exact h | exact absurd h (hP _ _ _)) ?_
        (refine TD.val0 (v := ?v2) (by simp only [zA, zB, zC]; rfl) rfl ?hw2 (fun w1 => ?hy2) ?hn2; (case hw2 => rfl); (case hy2 => (go_simp; (try with_reducible rfl))); (try simp only [Act.put, zF, zG, zH]))
        (refine TD.load (v := ?v3) (p := ?p3) (Mod.refl _ _) (by simp only [zA, zB, zC]; rfl) rfl ?hw3 rfl ?hx3 (fun wq hSq => ?hy3) ?hn3; (case hw3 => rfl); (case hx3 => (simp only [Act.eval, zD, zA, zB, zC, zE]; (try rfl))); (case hy3 => (have klq := hSq.at kl (fun h => h); have kp2q := hSq.at kp2 (fun h => h); go_simp; (try with_reducible rfl))); (try simp only [Act.put, zF, zG, zH]))
        (refine TD.val0 (v := ?v4) (by simp only [zA, zB, zC]; rfl) rfl ?hw4 (fun w1 => ?hy4) ?hn4; (case hw4 => rfl); (case hy4 => (go_simp; (try with_reducible rfl))); (try simp only [Act.put, zF, zG, zH]))
        (refine TD.val0 (v := ?v5) (by simp only [zA, zB, zC]; rfl) rfl ?hw5 (fun w1 => ?hy5) ?hn5; (case hw5 => rfl); (case hy5 => (go_simp; (try with_reducible rfl))); (try simp only [Act.put, zF, zG, zH]))
        (refine TD.load (v := ?v6) (p := ?p6) (Mod.refl _ _) (by simp only [zA, zB, zC]; rfl) rfl ?hw6 rfl ?hx6 (fun wq hSq => ?hy6) ?hn6; (case hw6 => rfl); (case hx6 => (simp only [Act.eval, zD, zA, zB, zC, zE]; (try rfl))); (case hy6 => (have klq := hSq.at kl (fun h => h); have kp2q := hSq.at kp2 (fun h => h); go_simp; (try with_reducible rfl))); (try simp only [Act.put, zF, zG, zH]))
        (refine TD.val0 (v := ?v7) (by simp only [zA, zB, zC]; rfl) rfl ?hw7 (fun w1 => ?hy7) ?hn7; (case hw7 => rfl); (case hy7 => (go_simp; (try with_reducible rfl))); (try simp only [Act.put, zF, zG, zH]))
        refine TD.eff (by simp only [zA, zB, zC]; rfl) rfl (fun wE hr => ?_)
        replace kl := hr.mod.at0 kl
        replace kp2 := hr.mod.at0 kp2
        have mE := hr.mod
        (refine eff_store (X := ?X8) (Y := ?Y8) (w' := ?w8) (by simp only [zA, zB, zC]; rfl) ?hw8 rfl ?hx8 ?hz8 ?hy8 ?hn8; (case hw8 => rfl); (case hx8 => (simp only [Act.eval, zD, zA, zB, zC, zE]; (try rfl))); (case hz8 => (simp only [Act.eval, zD, zA, zB, zC, zE]; (try rfl))); (case hy8 => (go_simp; (try with_reducible rfl))))
        (first | refine TE.nil_set kl (fun w3 kl mS => ?_) | refine TE.nil_setCell kl (fun w3 kl mS => ?_))
        replace kp2 := mS.at_ne kp2 (by omega)
        have HW3 : Hid (WAtG uc 1 w3 (some ⟨g, o, none⟩) (List.replicate (i + 1) ph ++ l.drop (i + 1))) := Lib.hid (wy_of kl (fun j y hy => by
          rw [← set_repG (by rw [HL.out]; exact hlt)] at hy
          rw [Array.getElem?_setIfInBounds]
          by_cases hj : j = i
          · subst hj
            rw [List.getElem?_set_self (by rw [HLEN.out]; exact hlt)] at hy
            cases hy
            rw [if_pos rfl, if_pos hci2]
          · rw [List.getElem?_set_ne (fun e => hj e.symm)] at hy
            rw [if_neg (by omega)]
            exact HROW.out j y hy))
        have hm3 := (hm.then0 mE).then mS (fun j _ e => ⟨o, by rw [e]⟩)
        clear kl hm mS mE hci2
        go_wp2_with fail
        go_roundw
        case rel => exact ⟨i + 1, by omega, by go_num, HW3.out, hm3, kp2⟩
        case measure => simp [intOf]; omega
    · obtain rfl : i = pn := by omega
      have HW2 : Hid (WAtG uc 1 wr pa (List.replicate i ph)) := Lib.hid (by
        have := hW2
        rw [List.drop_of_length_le (by omega), List.append_nil] at this
        exact this)
      clear hW2 hW
      go_wp2_with fail
      exact bodyPost_ret (v := .tuple #[]) (results_none rfl _ _ _) rfl ⟨rfl, HW2.out, (m1.mono (fun _ _ h => h.elim)).trans hm⟩
set_option maxRecDepth 20000 in
set_option maxHeartbeats 1600000 in
theorem sign1Y_c (pa : Option Addr) (pn : Nat) (ph pf : UInt8) (hb : pn ≤ 900000) (hsl : ∀ w2, (Instr.sliceAt 22 (.slice pa pn pn) none (some (.int .i64 (pn : Int))) none).run Tryz.prog w2 = .ok (.slice pa pn pn) w2) (w : World) : Calls Tryz.prog 152 #[.agg (shy pa pn ph pf), .bool true] w fun e w' => e = .returned (.tuple #[]) ∧ Mod (fun _ => False) w w' := by
  go_enter Tryz.func152, Tryz.ntmps152
  go_upto_region 0 with fail
  refine wp_pass0 (C := fun _ _ _ => False) (κ := fun i => [3].getD i 0) [0] (by kernel_rfl) (by kernel_rfl) (fun _ _ d _ _ h => by cases d <;> first | exact h | exact absurd h (hP _ _ _)) ?_
  (refine TD.box (v := ?v9) (by simp only [zA, zB, zC]; rfl) rfl ?hw9 rfl rfl ?hx9 (fun p2 hp2 => ?hn9); (case hw9 => rfl); (case hx9 => (simp only [Act.eval, zD, zA, zB, zC, zE]; (try rfl))); (try simp only [Act.put, zF, zG, zH]))
  refine TD.nil (fun w1 hr => ?_)
  have kp2 := hr.box p2 _ (by first | exact Bx.set_same _ _ _ | (simp only [Bx.set_same]; rfl)); dsimp only [Value.cells] at kp2; obtain ⟨gp2, kp2⟩ := kp2
  have m1 := hr.mod
  replace kp2 : w1.heap[p2]? = some (.cells (shy pa pn ph pf) 215 (0, 0)) := kp2
  go_upto_region 6 with fail
  have Lkp2 := lt_size kp2
  refine wp_pass0 (C := fun _ _ _ => False) (κ := fun i => [0, 1, 0, 1, 0, 0, 0].getD i 0) [0, 1, 2, 3, 4, 5, 6] (by kernel_rfl) (by kernel_rfl) (fun _ _ d _ _ h => by cases d <;> first | exact h | exact absurd h (hP _ _ _)) ?_
  (refine TD.val0 (v := ?v10) (by simp only [zA, zB, zC]; rfl) rfl ?hw10 (fun w1 => ?hy10) ?hn10; (case hw10 => rfl); (case hy10 => (go_simp; (try with_reducible rfl))); (try simp only [Act.put, zF, zG, zH]))
  (refine TD.load (v := ?v11) (p := ?p11) (Mod.refl _ _) (by simp only [zA, zB, zC]; rfl) rfl ?hw11 rfl ?hx11 (fun wq hSq => ?hy11) ?hn11; (case hw11 => rfl); (case hx11 => (simp only [Act.eval, zD, zA, zB, zC, zE]; (try rfl))); (case hy11 => (have kp2q := hSq.at kp2 (fun h => h); go_simp; (try with_reducible rfl))); (try simp only [Act.put, zF, zG, zH]))
  (refine TD.val0 (v := ?v12) (by simp only [zA, zB, zC]; rfl) rfl ?hw12 (fun w1 => ?hy12) ?hn12; (case hw12 => rfl); (case hy12 => (go_simp; (try with_reducible rfl))); (try simp only [Act.put, zF, zG, zH]))
  (refine TD.load (v := ?v13) (p := ?p13) (Mod.refl _ _) (by simp only [zA, zB, zC]; rfl) rfl ?hw13 rfl ?hx13 (fun wq hSq => ?hy13) ?hn13; (case hw13 => rfl); (case hx13 => (simp only [Act.eval, zD, zA, zB, zC, zE]; (try rfl))); (case hy13 => (have kp2q := hSq.at kp2 (fun h => h); go_simp; (try with_reducible rfl))); (try simp only [Act.put, zF, zG, zH]))
  (refine TD.val0 (v := ?v14) (by simp only [zA, zB, zC]; rfl) rfl ?hw14 (fun w1 => ?hy14) ?hn14; (case hw14 => rfl); (case hy14 => (go_simp; (try with_reducible rfl))); (try simp only [Act.put, zF, zG, zH]))
  (refine TD.slice (by simp only [zA, zB, zC]; rfl) rfl ?hw15 rfl ?hs15 ?hl15 ?hh15 ?hm15 hsl ?hn15; (case hw15 => rfl); (case hs15 => (simp only [Act.eval, zD, zA, zB, zC, zE]; (try rfl))); (case hl15 => first | rfl | (simp only [Option.map_some, Act.eval, zD, zA, zB, zC, zE]; (try rfl))); (case hh15 => first | rfl | (simp only [Option.map_some, Act.eval, zD, zA, zB, zC, zE]; (try rfl))); (case hm15 => rfl); (try simp only [Act.put, zF, zG, zH]))
  (refine TD.val0 (v := ?v16) (by simp only [zA, zB, zC]; rfl) rfl ?hw16 (fun w1 => ?hy16) ?hn16; (case hw16 => rfl); (case hy16 => (go_simp; (try with_reducible rfl))); (try simp only [Act.put, zF, zG, zH]))
  refine TD.nil (fun w2 hr => ?_)
  replace kp2 := hr.mod.at kp2 (fun h => h)
  have m2 := m1.then0 hr.mod
  go_wp2_with fail
  go_loopw [6] (fun s6 ws => s6 = .int .i64 (pn : Int) ∧ ws = w2) (fun _ _ => 0)
  case atStart => exact ⟨rfl, rfl⟩
  case round =>
    obtain ⟨rfl, rfl⟩ := hrel
    go_wp2_with fail
    go_end0
    exact ⟨rfl, m2⟩
set_option maxRecDepth 20000 in
set_option maxHeartbeats 1600000 in
theorem ownY_c (pa : Option Addr) (pn : Nat) (ph pf : UInt8) (hb : pn ≤ 900000) (hsl : ∀ w2, (Instr.sliceAt 22 (.slice pa pn pn) none (some (.int .i64 (pn : Int))) none).run Tryz.prog w2 = .ok (.slice pa pn pn) w2) (w : World) (h : WAtG uc 1 w pa (List.replicate pn ph)) : Calls Tryz.prog 151 #[.agg (shy pa pn ph pf)] w fun e w' => e = .returned (.bool true) ∧ Mod (fun _ => False) w w' := by
  have HS := Lib.hid h
  have hpp : ((ph.toNat : Int) != (ph.toNat : Int)) = false := by simp
  clear h
  go_enter Tryz.func151, Tryz.ntmps151
  go_upto_region 0 with fail
  refine wp_pass0 (C := fun _ _ _ => False) (κ := fun i => [3, 0].getD i 0) [0, 1] (by kernel_rfl) (by kernel_rfl) (fun _ _ d _ _ h => by cases d <;> first | exact h | exact absurd h (hP _ _ _)) ?_
  (refine TD.box (v := ?v17) (by simp only [zA, zB, zC]; rfl) rfl ?hw17 rfl rfl ?hx17 (fun p1 hp1 => ?hn17); (case hw17 => rfl); (case hx17 => (simp only [Act.eval, zD, zA, zB, zC, zE]; (try rfl))); (try simp only [Act.put, zF, zG, zH]))
  (refine TD.val0 (v := ?v18) (by simp only [zA, zB, zC]; rfl) rfl ?hw18 (fun w1 => ?hy18) ?hn18; (case hw18 => rfl); (case hy18 => (go_simp; (try with_reducible rfl))); (try simp only [Act.put, zF, zG, zH]))
  refine TD.nil (fun w1 hr => ?_)
  have kp1 := hr.box p1 _ (by first | exact Bx.set_same _ _ _ | (simp only [Bx.set_same]; rfl)); dsimp only [Value.cells] at kp1; obtain ⟨gp1, kp1⟩ := kp1
  have m1 := hr.mod
  replace kp1 : w1.heap[p1]? = some (.cells (shy pa pn ph pf) 215 (0, 0)) := kp1
  have HS1 := Lib.hid (HS.out.mod hr.mod (fun _ _ _ h => h))
  clear hr
  go_wp2_with fail
  go_loopw [3] (fun s3 ws => ∃ i : Nat, i ≤ pn ∧ s3 = .int .i64 (i : Int) ∧ Mod (fun _ => False) w1 ws) (fun s3 _ => pn - (intOf s3).toNat)
  case atStart => exact ⟨0, by omega, rfl, Mod.refl _ _⟩
  case round =>
    obtain ⟨i, hi, rfl, hm⟩ := hrel
    have kp1 := hm.at0 kp1
    by_cases hlt : i < pn
    · rcases wy_get (HS1.out.mod hm (fun _ _ _ h => h)) with hnil | ⟨g, o, C, U, ha, kl, hrow⟩
      · have := congrArg List.length hnil
        simp at this
        omega
      have hci := hrow i ph (by rw [List.getElem?_replicate, if_pos hlt])
      have HSL := Lib.hid hsl
      clear hsl hrow
      subst ha
      go_upto_region 4 with fail
      have Lkl := lt_size kl
      have Lkp1 := lt_size kp1
      refine wp_pass (C := fun _ _ _ => False) (κ := fun i => [0, 1, 0, 0, 1, 0, 1, 0].getD i 0) [0, 1, 2, 3, 4, 5, 6, 7] (by kernel_rfl) (by kernel_rfl) (fun _ _ d _ _ h => by cases d <;> first | exact h | exact absurd h (hP _ _ _)) ?_
      (refine TD.val0 (v := ?v19) (by simp only [zA, zB, zC]; rfl) rfl ?hw19 (fun w1 => ?hy19) ?hn19; (case hw19 => rfl); (case hy19 => (go_simp; (try with_reducible rfl))); (try simp only [Act.put, zF, zG, zH]))
      (refine TD.load (v := ?v20) (p := ?p20) (Mod.refl _ _) (by simp only [zA, zB, zC]; rfl) rfl ?hw20 rfl ?hx20 (fun wq hSq => ?hy20) ?hn20; (case hw20 => rfl); (case hx20 => (simp only [Act.eval, zD, zA, zB, zC, zE]; (try rfl))); (case hy20 => (have klq := hSq.at kl (fun h => h); have kp1q := hSq.at kp1 (fun h => h); go_simp; (try with_reducible rfl))); (try simp only [Act.put, zF, zG, zH]))
      (refine TD.val0 (v := ?v21) (by simp only [zA, zB, zC]; rfl) rfl ?hw21 (fun w1 => ?hy21) ?hn21; (case hw21 => rfl); (case hy21 => (go_simp; (try with_reducible rfl))); (try simp only [Act.put, zF, zG, zH]))
      (refine TD.val0 (v := ?v22) (by simp only [zA, zB, zC]; rfl) rfl ?hw22 (fun w1 => ?hy22) ?hn22; (case hw22 => rfl); (case hy22 => (go_simp; (try with_reducible rfl))); (try simp only [Act.put, zF, zG, zH]))
      (refine TD.load (v := ?v23) (p := ?p23) (Mod.refl _ _) (by simp only [zA, zB, zC]; rfl) rfl ?hw23 rfl ?hx23 (fun wq hSq => ?hy23) ?hn23; (case hw23 => rfl); (case hx23 => (simp only [Act.eval, zD, zA, zB, zC, zE]; (try rfl))); (case hy23 => (have klq := hSq.at kl (fun h => h); have kp1q := hSq.at kp1 (fun h => h); go_simp; (try with_reducible rfl))); (try simp only [Act.put, zF, zG, zH]))
      (refine TD.val0 (v := ?v24) (by simp only [zA, zB, zC]; rfl) rfl ?hw24 (fun w1 => ?hy24) ?hn24; (case hw24 => rfl); (case hy24 => (go_simp; (try with_reducible rfl))); (try simp only [Act.put, zF, zG, zH]))
      (refine TD.load (v := ?v25) (p := ?p25) (Mod.refl _ _) (by simp only [zA, zB, zC]; rfl) rfl ?hw25 rfl ?hx25 (fun wq hSq => ?hy25) ?hn25; (case hw25 => rfl); (case hx25 => (simp only [Act.eval, zD, zA, zB, zC, zE]; (try rfl))); (case hy25 => (have klq := hSq.at kl (fun h => h); have kp1q := hSq.at kp1 (fun h => h); go_simp; (try with_reducible rfl))); (try simp only [Act.put, zF, zG, zH]))
      (refine TD.val0 (v := ?v26) (by simp only [zA, zB, zC]; rfl) rfl ?hw26 (fun w1 => ?hy26) ?hn26; (case hw26 => rfl); (case hy26 => (go_simp; (try with_reducible rfl))); (try simp only [Act.put, zF, zG, zH]))
      refine TD.nil (fun w3 hr => ?_)
      replace kl := hr.mod.at kl (fun h => h)
      replace kp1 := hr.mod.at kp1 (fun h => h)
      have hm3 := hm.then0 hr.mod
      clear kl hci
      go_wp2_with fail
      go_roundw
      case rel => exact ⟨i + 1, by omega, by go_num, hm3⟩
      case measure => simp [intOf]; omega
    · obtain rfl : i = pn := by omega
      go_upto_region 6 with fail
      have Lkp1 := lt_size kp1
      refine wp_pass0 (C := fun _ _ _ => False) (κ := fun i => [0, 1, 0, 1, 0, 0, 0].getD i 0) [0, 1, 2, 3, 4, 5, 6] (by kernel_rfl) (by kernel_rfl) (fun _ _ d _ _ h => by cases d <;> first | exact h | exact absurd h (hP _ _ _)) ?_
      (refine TD.val0 (v := ?v27) (by simp only [zA, zB, zC]; rfl) rfl ?hw27 (fun w1 => ?hy27) ?hn27; (case hw27 => rfl); (case hy27 => (go_simp; (try with_reducible rfl))); (try simp only [Act.put, zF, zG, zH]))
      (refine TD.load (v := ?v28) (p := ?p28) (Mod.refl _ _) (by simp only [zA, zB, zC]; rfl) rfl ?hw28 rfl ?hx28 (fun wq hSq => ?hy28) ?hn28; (case hw28 => rfl); (case hx28 => (simp only [Act.eval, zD, zA, zB, zC, zE]; (try rfl))); (case hy28 => (have kp1q := hSq.at kp1 (fun h => h); go_simp; (try with_reducible rfl))); (try simp only [Act.put, zF, zG, zH]))
      (refine TD.val0 (v := ?v29) (by simp only [zA, zB, zC]; rfl) rfl ?hw29 (fun w1 => ?hy29) ?hn29; (case hw29 => rfl); (case hy29 => (go_simp; (try with_reducible rfl))); (try simp only [Act.put, zF, zG, zH]))
      (refine TD.load (v := ?v30) (p := ?p30) (Mod.refl _ _) (by simp only [zA, zB, zC]; rfl) rfl ?hw30 rfl ?hx30 (fun wq hSq => ?hy30) ?hn30; (case hw30 => rfl); (case hx30 => (simp only [Act.eval, zD, zA, zB, zC, zE]; (try rfl))); (case hy30 => (have kp1q := hSq.at kp1 (fun h => h); go_simp; (try with_reducible rfl))); (try simp only [Act.put, zF, zG, zH]))
      (refine TD.val0 (v := ?v31) (by simp only [zA, zB, zC]; rfl) rfl ?hw31 (fun w1 => ?hy31) ?hn31; (case hw31 => rfl); (case hy31 => (go_simp; (try with_reducible rfl))); (try simp only [Act.put, zF, zG, zH]))
      (refine TD.slice (by simp only [zA, zB, zC]; rfl) rfl ?hw32 rfl ?hs32 ?hl32 ?hh32 ?hm32 hsl ?hn32; (case hw32 => rfl); (case hs32 => (simp only [Act.eval, zD, zA, zB, zC, zE]; (try rfl))); (case hl32 => first | rfl | (simp only [Option.map_some, Act.eval, zD, zA, zB, zC, zE]; (try rfl))); (case hh32 => first | rfl | (simp only [Option.map_some, Act.eval, zD, zA, zB, zC, zE]; (try rfl))); (case hm32 => rfl); (try simp only [Act.put, zF, zG, zH]))
      (refine TD.val0 (v := ?v33) (by simp only [zA, zB, zC]; rfl) rfl ?hw33 (fun w1 => ?hy33) ?hn33; (case hw33 => rfl); (case hy33 => (go_simp; (try with_reducible rfl))); (try simp only [Act.put, zF, zG, zH]))
      refine TD.nil (fun w2 hr => ?_)
      replace kp1 := hr.mod.at kp1 (fun h => h)
      have m2 := (m1.then0 hm).then0 hr.mod
      go_wp2_with fail
      go_loopw [5] (fun s5 ws => s5 = .int .i64 (i : Int) ∧ ws = w2) (fun _ _ => 0)
      case atStart => exact ⟨rfl, rfl⟩
      case round =>
        obtain ⟨rfl, rfl⟩ := hrel
        go_wp2_with fail
        go_ret
        exact ⟨rfl, m2⟩
end Go.Proofs.YtofpnmoeimjnnaaGreat
namespace Go.Proofs.YtofpnmoeimjnnaaGreat
open Go.RowKit
open Go.ChangeMaps (setBlock)
set_option linter.unusedSimpArgs false
set_option linter.unusedVariables false
attribute [local go_sem] cell_blk frozen_blk one_int one_bool one_ptr one_slice one_map Value.cells
attribute [local go_sem ↓] wlKey ldKey stKey
attribute [local go_sem] kc_ext kc_one kc_one0 kc_size zKey_size one_slice
attribute [local go_sem ↓] wlSg ldSg stSg
attribute [local go_sem] sgc_size sgc_ext sgc_one0 sgc_one'
def bk3 (x y z : UInt8) : Key := ⟨[x, y, 77, 0, 0, 0, 0, 0, 0, 0, 0, 0, 0, 0, 0, 0, 0, 0, 0, 0, 0, 0, 0, 0, 0, 0, 0, 0, 0, 0, 0, z], rfl⟩
def bs3 (x y z : UInt8) : Sg := ⟨x :: y :: z :: List.replicate 61 0, by simp⟩
theorem bkbG (x y z : UInt8) (w : World) : (Instr.build 153 #[(0, u8v x), (1, u8v y), (2, .int .u8 77), (31, u8v z)]).run Tryz.prog w = .ok (.agg (kc (bk3 x y z))) w := by kernel_rfl
theorem bsbG1 (x y : UInt8) (w : World) : (Instr.build 66 #[(0, u8v x), (1, u8v y), (2, .int .u8 1)]).run Tryz.prog w = .ok (.agg (sgc (bs3 x y 1))) w := by kernel_rfl
theorem bsbG2 (x y : UInt8) (w : World) : (Instr.build 66 #[(0, u8v x), (1, u8v y), (2, .int .u8 2)]).run Tryz.prog w = .ok (.agg (sgc (bs3 x y 2))) w := by kernel_rfl
theorem byteOf (n : Nat) : ∃ x : UInt8, IntKind.u8.wrap (n : Int) = (x.toNat : Int) := ⟨UInt8.ofNat n, by
  rw [IntKind.wrap_u8]
  simp
  ⟩
set_option maxRecDepth 20000 in
theorem keyG_c (n : Nat) (hn : n ≤ 2000000000) {x y : UInt8} (hx : IntKind.u8.wrap (n : Int) = (x.toNat : Int)) (hy : IntKind.u8.wrap ((n : Int) / 256) = (y.toNat : Int)) (z : UInt8) (w : World) : Calls Tryz.prog 96 #[.int .i64 (n : Int), u8v z] w fun e w' => e = .returned (.agg (kc (bk3 x y z))) ∧ Mod (fun _ => False) w w' := by
  have hb := bkbG x y z
  go_enter Tryz.func96, Tryz.ntmps96
  go_upto_region 0 with fail
  refine wp_pass0 (C := fun _ _ _ => False) (κ := fun i => [3].getD i 0) [0] (by kernel_rfl) (by kernel_rfl) (fun _ _ d _ _ h => by cases d <;> first | exact h | exact absurd h (hP _ _ _)) ?_
  (refine TD.allocB (by simp only [zA, zB, zC]; rfl) rfl ?hw1 rfl rfl alKey (fun p4 hp4 => ?hn1); (case hw1 => rfl); (try simp only [Act.put, zF, zG, zH]))
  refine TD.nil (fun w1 hr => ?_)
  have kp4 := hr.box p4 _ (by first | exact Bx.set_same _ _ _ | (simp only [Bx.set_same]; rfl)); dsimp only [Value.cells] at kp4; obtain ⟨gp4, kp4⟩ := kp4
  have m1 := hr.mod
  have hdv : IntKind.i64.wrap ((n : Int) / 256) = (n : Int) / 256 := by rw [IntKind.wrap_i64]; omega
  go_upto_region 1 with fail
  have Lkp4 := lt_size kp4
  refine wp_pass0 (C := fun _ _ _ => False) (κ := fun i => [0, 0, 0, 0, 0, 0, 0, 5].getD i 0) [0, 1, 2, 3, 4, 5, 6, 7] (by kernel_rfl) (by kernel_rfl) (fun _ _ d _ _ h => by cases d <;> first | exact h | exact absurd h (hP _ _ _)) ?_
  (refine TD.val0 (v := ?v2) (by simp only [zA, zB, zC]; rfl) rfl ?hw2 (fun w1 => ?hy2) ?hn2; (case hw2 => rfl); (case hy2 => (go_simp; (try with_reducible rfl))); (try simp only [Act.put, zF, zG, zH]))
  (refine TD.val0 (v := ?v3) (by simp only [zA, zB, zC]; rfl) rfl ?hw3 (fun w1 => ?hy3) ?hn3; (case hw3 => rfl); (case hy3 => (go_simp; (try with_reducible rfl))); (try simp only [Act.put, zF, zG, zH]))
  (refine TD.val0 (v := ?v4) (by simp only [zA, zB, zC]; rfl) rfl ?hw4 (fun w1 => ?hy4) ?hn4; (case hw4 => rfl); (case hy4 => (go_simp; (try with_reducible rfl))); (try simp only [Act.put, zF, zG, zH]))
  (refine TD.val0 (v := ?v5) (by simp only [zA, zB, zC]; rfl) rfl ?hw5 (fun w1 => ?hy5) ?hn5; (case hw5 => rfl); (case hy5 => (go_simp; (try with_reducible rfl))); (try simp only [Act.put, zF, zG, zH]))
  (refine TD.val0 (v := ?v6) (by simp only [zA, zB, zC]; rfl) rfl ?hw6 (fun w1 => ?hy6) ?hn6; (case hw6 => rfl); (case hy6 => (go_simp; (try with_reducible rfl))); (try simp only [Act.put, zF, zG, zH]))
  (refine TD.val0 (v := ?v7) (by simp only [zA, zB, zC]; rfl) rfl ?hw7 (fun w1 => ?hy7) ?hn7; (case hw7 => rfl); (case hy7 => (go_simp; (try with_reducible rfl))); (try simp only [Act.put, zF, zG, zH]))
  (refine TD.build (v := ?v8) (ps := ?p8) (by simp only [zA, zB, zC]; rfl) rfl ?hw8 rfl ?hx8 (fun w1 => ?hy8) ?hn8; (case hw8 => rfl); (case hx8 => (simp only [List.map_toArray, List.map_cons, List.map_nil, Act.eval, zD, zA, zB, zC, zE]; (try rfl))); (case hy8 => (rw [hb]; (try with_reducible rfl))); (try simp only [Act.put, zF, zG, zH]))
  refine TD.eff (by simp only [zA, zB, zC]; rfl) rfl (fun wE hr => ?_)
  replace kp4 := hr.mod.at0 kp4
  have mE := hr.mod
  (refine eff_store (X := ?X9) (Y := ?Y9) (w' := ?w9) (by simp only [zA, zB, zC]; rfl) ?hw9 rfl ?hx9 ?hz9 ?hy9 ?hn9; (case hw9 => rfl); (case hx9 => (simp only [Act.eval, zD, zA, zB, zC, zE]; (try rfl))); (case hz9 => (simp only [Act.eval, zD, zA, zB, zC, zE]; (try rfl))); (case hy9 => (go_simp; (try with_reducible rfl))))
  (first | refine TE.nil_set kp4 (fun w2 kp4 mS => ?_) | refine TE.nil_setCell kp4 (fun w2 kp4 mS => ?_))
  (try simp only [Array.setIfInBounds, zF, zG, zH] at kp4)
  have m2 := (m1.then0 mE).thenB mS (.inl gp4)
  clear hr mE mS
  go_wp2_with fail
  exact bodyPost_ret (results_cell1 (v := .agg (kc (bk3 x y z))) rfl rfl (by rw [ldKey]; simp [kp4, kc_size, kc_ext])) rfl ⟨rfl, m2⟩
def BookAt (w : World) (r : Nat) (L : List Pg) : Prop := ∃ v, w.heap[r]? = some (.cells #[v] 31 (0, 0)) ∧ SlOwn pgc 1 106 w (r + 1) v L
theorem number_c (r : Nat) (L : List Pg) (w : World) (h : BookAt w r L) (hL : L.length ≤ 1000000000) : Calls Tryz.prog 65 #[.pointer (some ⟨r, 0, none⟩)] w fun e w' => e = .returned (.int .i64 ((L.length + 1 : Nat) : Int)) ∧ w' = w := by
  obtain ⟨v, kr, hO⟩ := h
  obtain ⟨a, c, rfl, _⟩ := hO.at pageT
  clear hO
  have hw : IntKind.i64.wrap ((L.length : Int) + 1) = ((L.length + 1 : Nat) : Int) := by
    rw [IntKind.wrap_i64]
    omega
  go_enter Tryz.func65, Tryz.ntmps65
  go_wp2_with fail
  go_ret
  exact ⟨by first | rfl | simp, rfl⟩
theorem bldShY (a : Option Addr) (n : Nat) (h f : UInt8) (w : World) : (Instr.build 215 #[(0, .slice a n n), (1, u8v h), (2, u8v f)]).run Tryz.prog w = .ok (.agg (shy a n h f)) w := by kernel_rfl
def zShK : Array Value := #[.slice none 0 0] ++ (Array.replicate 32 (.int .u8 0) ++ Array.replicate 32 (.int .u8 0))
theorem zShK_size : zShK.size = 65 := by simp [zShK]
theorem bldShK (a : Option Addr) (n : Nat) (h f : Key) (w : World) : (Instr.build 213 #[(0, .slice a n n), (1, .agg (kc h)), (2, .agg (kc f))]).run Tryz.prog w = .ok (.agg (shk a n h f)) w := by
  refine run_build_struct (z := .agg zShK) (places := #[(0, 1), (1, 32), (33, 32)]) Tryz.underlying213 (fun w => by kernel_rfl) (fun w => by kernel_rfl) ?_ w
  show Instr.fill _ zShK [(0, _), (1, _), (2, _)] = _
  rw [fill_cons (off := 0) (n := 1) rfl rfl (by rw [zShK_size]; omega), fill_cons (off := 1) (n := 32) rfl (by simp [Value.cells, kc_size]) (by rw [wr_size, zShK_size]; omega), fill_cons (off := 33) (n := 32) rfl (by simp [Value.cells, kc_size]) (by rw [wr_size, wr_size, zShK_size]; omega)]
  refine congrArg some ?_
  apply Array.toList_inj.1
  have h1 : (kc h).toList.length = 32 := by rw [Array.length_toList, kc_size]
  have h2 : (kc f).toList.length = 32 := by rw [Array.length_toList, kc_size]
  have hz : zShK.toList.length = 65 := by rw [Array.length_toList, zShK_size]
  obtain ⟨z0, z1, hz01⟩ : ∃ z0 z1, zShK.toList = z0 :: z1 := by
    cases h : zShK.toList with
    | nil => rw [h] at hz; simp at hz
    | cons x y => exact ⟨x, y, rfl⟩
  have hz1 : z1.length = 65 - 1 := by rw [hz01] at hz; simp at hz; omega
  rw [wr_list _ _ _ (by rw [wr_size, wr_size, zShK_size]; simp [Value.cells, kc_size]), wr_list _ _ _ (by rw [wr_size, zShK_size]; simp [Value.cells, kc_size]), wr_list _ _ _ (by rw [zShK_size]; simp [Value.cells])]
  simp only [Value.cells, shk, Array.toList_append, List.append_nil, List.take_zero, List.nil_append, h1, h2, hz01]
  simp only [List.length_cons, List.length_nil, List.drop_succ_cons, List.drop_zero, List.cons_append, List.nil_append, List.take_succ_cons, List.take_zero, Nat.zero_add]
  rw [List.take_append_of_le_length (by simp [h1]), List.take_of_length_le (by simp [h1]), List.drop_of_length_le (by simp [h1, h2, hz1])]
  simp
def zShS : Array Value := #[.slice none 0 0] ++ (Array.replicate 64 (.int .u8 0) ++ Array.replicate 64 (.int .u8 0))
theorem zShS_size : zShS.size = 129 := by simp [zShS]
theorem bldShS (a : Option Addr) (n : Nat) (h f : Sg) (w : World) : (Instr.build 160 #[(0, .slice a n n), (1, .agg (sgc h)), (2, .agg (sgc f))]).run Tryz.prog w = .ok (.agg (shs a n h f)) w := by
  refine run_build_struct (z := .agg zShS) (places := #[(0, 1), (1, 64), (65, 64)]) Tryz.underlying160 (fun w => by kernel_rfl) (fun w => by kernel_rfl) ?_ w
  show Instr.fill _ zShS [(0, _), (1, _), (2, _)] = _
  rw [fill_cons (off := 0) (n := 1) rfl rfl (by rw [zShS_size]; omega), fill_cons (off := 1) (n := 64) rfl (by simp [Value.cells, sgc_size]) (by rw [wr_size, zShS_size]; omega), fill_cons (off := 65) (n := 64) rfl (by simp [Value.cells, sgc_size]) (by rw [wr_size, wr_size, zShS_size]; omega)]
  refine congrArg some ?_
  apply Array.toList_inj.1
  have h1 : (sgc h).toList.length = 64 := by rw [Array.length_toList, sgc_size]
  have h2 : (sgc f).toList.length = 64 := by rw [Array.length_toList, sgc_size]
  have hz : zShS.toList.length = 129 := by rw [Array.length_toList, zShS_size]
  obtain ⟨z0, z1, hz01⟩ : ∃ z0 z1, zShS.toList = z0 :: z1 := by
    cases h : zShS.toList with
    | nil => rw [h] at hz; simp at hz
    | cons x y => exact ⟨x, y, rfl⟩
  have hz1 : z1.length = 129 - 1 := by rw [hz01] at hz; simp at hz; omega
  rw [wr_list _ _ _ (by rw [wr_size, wr_size, zShS_size]; simp [Value.cells, sgc_size]), wr_list _ _ _ (by rw [wr_size, zShS_size]; simp [Value.cells, sgc_size]), wr_list _ _ _ (by rw [zShS_size]; simp [Value.cells])]
  simp only [Value.cells, shs, Array.toList_append, List.append_nil, List.take_zero, List.nil_append, h1, h2, hz01]
  simp only [List.length_cons, List.length_nil, List.drop_succ_cons, List.drop_zero, List.cons_append, List.nil_append, List.take_succ_cons, List.take_zero, Nat.zero_add]
  rw [List.take_append_of_le_length (by simp [h1]), List.take_of_length_le (by simp [h1]), List.drop_of_length_le (by simp [h1, h2, hz1])]
  simp
theorem bsPage (p : Pg) (w : World) : (Instr.buildSlice 29 1 #[(0, .iface (shT p) (.agg (shc p)))]).run Tryz.prog w = .ok (.slice (some ⟨w.heap.size, 0, none⟩) 1 1) (w.alloc (.cells (pgc p) 106)) := by
  obtain ⟨i0, z, hi, hz, hz1, hz2, hz3⟩ := pageT.info
  refine run_buildSlice w _ _ 1 _ _ i0 _ Tryz.underlying29 hi hz (by rw [hz1]; omega) (by rw [hz1]; omega) ?_
  rw [hz1]
  show Instr.fill _ _ [(0, _)] = _
  rw [fill_cons (off := 0) (n := 1) rfl rfl (by simp)]
  show some (wr _ 0 (pgc p).toList) = _
  rw [wr_whole (pgc p) _ (by simp [pgc, hz3])]
end Go.Proofs.YtofpnmoeimjnnaaGreat
namespace Go.Proofs.YtofpnmoeimjnnaaGreat
open Go.RowKit
open Go.ChangeMaps (setBlock)
set_option linter.unusedSimpArgs false
set_option linter.unusedVariables false
attribute [local go_sem] cell_blk frozen_blk one_int one_bool one_ptr one_slice one_map Value.cells
abbrev Pl := Nat × Option Addr × Nat
def Pg.pl : Pg → Pl
  | .y a n _ _ => (0, a, n)
  | .k a n _ _ => (1, a, n)
  | .s a n _ _ => (2, a, n)
def plB (p : Pl) : List Nat := (Value.slice p.2.1 0 0).ownBlock.toList
theorem plB_eq (k : Nat) (a : Option Addr) (n m c : Nat) : plB (k, a, n) = (Value.slice a m c).ownBlock.toList := by cases a <;> rfl
theorem plB_in {p : Pl} {g : Nat} (h : InAd p.2.1 g) : g ∈ plB p := by
  obtain ⟨k, a, n⟩ := p
  obtain ⟨o, h⟩ := h
  simp only at h
  subst h
  simp [plB, Value.ownBlock]
def FmL (a : Option Addr) (n : Nat) : Prop := (a = none ∧ n = 0) ∨ ∃ g, a = some ⟨g, 0, none⟩
section
variable {α : Type} {f : α → Array Value} {n B : Nat} {P : Program} {T E : TypeId}
theorem NewS.fm {b m c : Nat} {w : World} {a : Option Addr} {l : List α} (h : NewS f n E b w (.slice a m c) l) : FmL a l.length := by
  rcases h with ⟨h1, h2⟩ | ⟨g, cur, h1, _⟩
  · injection h1 with h1 _ _
    subst h1
    subst h2
    exact .inl ⟨rfl, rfl⟩
  · injection h1 with h1 _ _
    exact .inr ⟨g, h1⟩
theorem sl_nil (hT : ElT P T E f n B) (w : World) : (Instr.sliceAt T (.slice none 0 0) none (some (.int .i64 0)) none).run P w = .ok (.slice none 0 0) w := by
  obtain ⟨i0, z, hi, hz, hz1, hz2, hz3⟩ := hT.info
  simp only [Instr.sliceAt, Instr.slice, Instr.sliceBounds, Instr.sliceBound, asIntOf, sizeOf, typeInfo, run_underlying hT.u, hi, Sem.run_bind, Sem.run_pure, Result.andThen_ok]
  rw [if_pos ⟨by omega, by omega⟩]
  simp [Sem.run_pure, Result.andThen_ok, Go.program, Sem.run, hi, hz1]
theorem sl_all (hT : ElT P T E f n B) {a : Option Addr} {m : Nat} (h : FmL a m) (w : World) : (Instr.sliceAt T (.slice a m m) none (some (.int .i64 (m : Int))) none).run P w = .ok (.slice a m m) w := by
  rcases h with ⟨rfl, rfl⟩ | ⟨g, rfl⟩
  · exact sl_nil hT w
  · exact sl_take hT (Nat.le_refl _) w
end
def WrL (w : World) (p : Pl) : Prop := FmL p.2.1 p.2.2 ∧ (p.1 = 0 → ∃ l, l.length = p.2.2 ∧ WAtG uc 1 w p.2.1 l) ∧ (p.1 = 1 → ∃ l, l.length = p.2.2 ∧ WAtG kc 32 w p.2.1 l) ∧ (p.1 = 2 → ∃ l, l.length = p.2.2 ∧ WAtG sgc 64 w p.2.1 l)
theorem pl_a (p : Pg) : p.pl.2.1 = p.a := by cases p <;> rfl
theorem WrL.mod {w w' : World} {p : Pl} {S : Nat → Prop} (h : WrL w p) (hm : Mod S w w') (hS : ∀ g, InAd p.2.1 g → ¬ S g) : WrL w' p := by
  refine ⟨h.1, fun e => ?_, fun e => ?_, fun e => ?_⟩
  · obtain ⟨l, h1, h2⟩ := h.2.1 e
    exact ⟨l, h1, h2.mod hm (fun b o e => hS b ⟨o, e⟩)⟩
  · obtain ⟨l, h1, h2⟩ := h.2.2.1 e
    exact ⟨l, h1, h2.mod hm (fun b o e => hS b ⟨o, e⟩)⟩
  · obtain ⟨l, h1, h2⟩ := h.2.2.2 e
    exact ⟨l, h1, h2.mod hm (fun b o e => hS b ⟨o, e⟩)⟩
def insPl (L : List InR) : List Pl := L.flatMap fun r => [(0, r.a.a, r.a.l.length), (0, r.d.a, r.d.l.length)]
def losPl (L : List LoR) : List Pl := L.flatMap fun r => [(0, r.w.a, r.w.l.length), (0, r.r.a, r.r.l.length)]
def msgPl (x : RdR) : List Pl := (1, x.ks.a, x.ks.l.length) :: (insPl x.ins.l ++ losPl x.lks.l)
def txPl (x : RdR) : List Pl := (2, x.sg.a, x.sg.l.length) :: msgPl x
theorem insPl_b (L : List InR) : (insPl L).flatMap plB = insB L := by
  unfold insPl insB
  rw [List.flatMap_assoc]
  congr 1
  funext r
  simp only [List.flatMap_cons, List.flatMap_nil, List.append_nil]
  rw [plB_eq 0 r.a.a _ r.a.l.length r.a.c, plB_eq 0 r.d.a _ r.d.l.length r.d.c]
  rfl
theorem losPl_b (L : List LoR) : (losPl L).flatMap plB = losB L := by
  unfold losPl losB
  rw [List.flatMap_assoc]
  congr 1
  funext r
  simp only [List.flatMap_cons, List.flatMap_nil, List.append_nil]
  rw [plB_eq 0 r.w.a _ r.w.l.length r.w.c, plB_eq 0 r.r.a _ r.r.l.length r.r.c]
  rfl
theorem txPl_b (x : RdR) : (txPl x).flatMap plB = blk x := by
  unfold txPl msgPl blk
  rw [List.flatMap_cons, List.flatMap_cons, List.flatMap_append, insPl_b, losPl_b, plB_eq 2 x.sg.a _ x.sg.l.length x.sg.c, plB_eq 1 x.ks.a _ x.ks.l.length x.ks.c]
theorem All2.left {α β : Type} {R : α → β → Prop} {l : List α} {m : List β} (h : All2 R l m) : ∀ x ∈ l, ∃ y ∈ m, R x y := by
  induction h with
  | nil => exact fun x h => by cases h
  | @cons a b l m hx _ ih =>
    intro x hx'
    rcases List.mem_cons.1 hx' with rfl | hx'
    · exact ⟨b, List.mem_cons_self, hx⟩
    · obtain ⟨y, h1, h2⟩ := ih x hx'
      exact ⟨y, List.mem_cons_of_mem _ h1, h2⟩
theorem WrL.y {b c m : Nat} {w : World} {a : Option Addr} {l : List UInt8} (h : NewS uc 1 5 b w (.slice a m c) l) : WrL w (0, a, l.length) := ⟨h.fm, fun _ => ⟨l, rfl, WAtG.of h⟩, fun e => (by cases e), fun e => (by cases e)⟩
theorem WrL.k {b c m : Nat} {w : World} {a : Option Addr} {l : List Key} (h : NewS kc 32 153 b w (.slice a m c) l) : WrL w (1, a, l.length) := ⟨h.fm, fun e => (by cases e), fun _ => ⟨l, rfl, WAtG.of h⟩, fun e => (by cases e)⟩
theorem WrL.s {b c m : Nat} {w : World} {a : Option Addr} {l : List Sg} (h : NewS sgc 64 66 b w (.slice a m c) l) : WrL w (2, a, l.length) := ⟨h.fm, fun e => (by cases e), fun e => (by cases e), fun _ => ⟨l, rfl, WAtG.of h⟩⟩
theorem ins_pl {b : Nat} {w : World} {L : List InR} {xs : List InP} (h : InsOk b w L xs) (hb : ∀ x ∈ xs, InB x) : ∀ p ∈ insPl L, WrL w p ∧ p.2.2 ≤ 65535 := by
  intro p hp
  obtain ⟨r, hr, hp⟩ := List.mem_flatMap.1 hp
  obtain ⟨x, hx, _, h2, h3, h4, h5⟩ := h.1.left r hr
  have hB := hb x hx
  rw [← h2] at h4
  rw [← h3] at h5
  simp only [List.mem_cons, List.not_mem_nil, or_false] at hp
  rcases hp with rfl | rfl
  · exact ⟨WrL.y h4, by rw [h2]; exact hB.1⟩
  · exact ⟨WrL.y h5, by rw [h3]; exact hB.2⟩
theorem los_pl {b : Nat} {w : World} {L : List LoR} {xs : List LoP} (h : LosOk b w L xs) (hb : ∀ x ∈ xs, LoB x) : ∀ p ∈ losPl L, WrL w p ∧ p.2.2 ≤ 65535 := by
  intro p hp
  obtain ⟨r, hr, hp⟩ := List.mem_flatMap.1 hp
  obtain ⟨x, hx, _, h2, h3, h4, h5⟩ := h.1.left r hr
  have hB := hb x hx
  rw [← h2] at h4
  rw [← h3] at h5
  simp only [List.mem_cons, List.not_mem_nil, or_false] at hp
  rcases hp with rfl | rfl
  · exact ⟨WrL.y h4, by rw [h2]; exact hB.1⟩
  · exact ⟨WrL.y h5, by rw [h3]; exact hB.2⟩
def DjP (p q : Pl) : Prop := ∀ g ∈ plB p, g ∉ plB q
theorem djP_of {Q : List Pl} (h : (Q.flatMap plB).Pairwise (· < ·)) : Q.Pairwise DjP := by
  rw [List.pairwise_flatMap] at h
  exact h.2.imp (fun hpq g hg hg' => by have := hpq g hg g hg'; omega)
theorem tx_pl {b : Nat} {w : World} {x : RdR} (h : TxO b w x) (hB : TxB (txP x)) : (∀ p ∈ txPl x, WrL w p ∧ p.2.2 ≤ 65535) ∧ (txPl x).Pairwise DjP := by
  obtain ⟨h1, h2, h3, h4, h5, h6, h7⟩ := h
  have hr : ∀ p ∈ insPl x.ins.l ++ losPl x.lks.l, ∀ g ∈ plB p, ∃ C, w.heap[g]? = some (.cells C 5 (0, 0)) := by
    intro p hp g hg
    have hm : g ∈ (insPl x.ins.l ++ losPl x.lks.l).flatMap plB := List.mem_flatMap.2 ⟨p, hp, hg⟩
    rw [List.flatMap_append, insPl_b, losPl_b] at hm
    rcases List.mem_append.1 hm with hm | hm
    · exact (h4.2.2 g hm).2.2
    · exact (h6.2.2 g hm).2.2
  have hs : ∀ g ∈ plB (2, x.sg.a, x.sg.l.length), ∃ C, w.heap[g]? = some (.cells C 66 (0, 0)) := by
    intro g hg
    rw [plB_eq 2 x.sg.a _ x.sg.l.length x.sg.c, Option.mem_toList] at hg
    exact h1.ty hg
  have hk : ∀ g ∈ plB (1, x.ks.a, x.ks.l.length), ∃ C, w.heap[g]? = some (.cells C 153 (0, 0)) := by
    intro g hg
    rw [plB_eq 1 x.ks.a _ x.ks.l.length x.ks.c, Option.mem_toList] at hg
    exact h2.ty hg
  refine ⟨fun p hp => ?_, ?_⟩
  · rcases List.mem_cons.1 hp with rfl | hp
    · exact ⟨WrL.s h1, hB.1⟩
    rcases List.mem_cons.1 hp with rfl | hp
    · exact ⟨WrL.k h2, hB.2.1⟩
    rcases List.mem_append.1 hp with hp | hp
    · exact ins_pl h4 hB.2.2.1.2 p hp
    · exact los_pl h6 hB.2.2.2.2 p hp
  · unfold txPl msgPl
    refine List.pairwise_cons.2 ⟨fun q hq g hg hg' => ?_, List.pairwise_cons.2 ⟨fun q hq g hg hg' => ?_, djP_of ?_⟩⟩
    · obtain ⟨C, e1⟩ := hs g hg
      rcases List.mem_cons.1 hq with rfl | hq
      · obtain ⟨C', e2⟩ := hk g hg'
        rw [e1] at e2
        injection e2 with e2
        injection e2 with _ e2
        simp at e2
      · obtain ⟨C', e2⟩ := hr q hq g hg'
        rw [e1] at e2
        injection e2 with e2
        injection e2 with _ e2
        simp at e2
    · obtain ⟨C, e1⟩ := hk g hg
      obtain ⟨C', e2⟩ := hr q hq g hg'
      rw [e1] at e2
      injection e2 with e2
      injection e2 with _ e2
      simp at e2
    · rw [List.flatMap_append, insPl_b, losPl_b]
      exact List.pairwise_append.2 ⟨h4.2.1, h6.2.1, fun a ha c hc => h7 a ha c hc⟩
theorem txs_pl {b : Nat} {w : World} {L : List RdR} (h : TxsO b w L) (hB : ∀ x ∈ L, TxB (txP x)) : (∀ p ∈ L.flatMap txPl, WrL w p ∧ p.2.2 ≤ 65535 ∧ ∀ g ∈ plB p, b ≤ g ∧ g < w.heap.size) ∧ (L.flatMap txPl).Pairwise DjP := by
  refine ⟨fun p hp => ?_, ?_⟩
  · obtain ⟨x, hx, hp⟩ := List.mem_flatMap.1 hp
    have h1 := (tx_pl (h.1 x hx) (hB x hx)).1 p hp
    exact ⟨h1.1, h1.2, fun g hg => (h.1 x hx).blk g (by rw [← txPl_b]; exact List.mem_flatMap.2 ⟨p, hp, hg⟩)⟩
  · rw [List.pairwise_flatMap]
    refine ⟨fun x hx => (tx_pl (h.1 x hx) (hB x hx)).2, h.2.imp (fun hxy p hp q hq g hg hg' => ?_)⟩
    rename_i x y
    have := hxy g (by rw [← txPl_b]; exact List.mem_flatMap.2 ⟨p, hp, hg⟩) g (by rw [← txPl_b]; exact List.mem_flatMap.2 ⟨q, hq, hg'⟩)
    omega
theorem insPl_len (L : List InR) : (insPl L).length = 2 * L.length := by
  induction L with
  | nil => rfl
  | cons x l ih => rw [insPl, List.flatMap_cons, List.length_append, ← insPl, ih]; simp; omega
theorem losPl_len (L : List LoR) : (losPl L).length = 2 * L.length := by
  induction L with
  | nil => rfl
  | cons x l ih => rw [losPl, List.flatMap_cons, List.length_append, ← losPl, ih]; simp; omega
theorem txPl_len {x : RdR} (hB : TxB (txP x)) : (txPl x).length ≤ 262142 := by
  have h1 := hB.2.2.1.1
  have h2 := hB.2.2.2.1
  simp only [txP, msgP, List.length_map] at h1 h2
  simp only [txPl, msgPl, List.length_cons, List.length_append, insPl_len, losPl_len]
  omega
theorem txsPl_len {L : List RdR} (hB : ∀ x ∈ L, TxB (txP x)) : (L.flatMap txPl).length ≤ L.length * 262142 := by
  induction L with
  | nil => simp
  | cons x l ih =>
    rw [List.flatMap_cons, List.length_append, List.length_cons]
    have h1 := txPl_len (hB x List.mem_cons_self)
    have h2 := ih (fun y hy => hB y (List.mem_cons_of_mem _ hy))
    omega
theorem signG0_c (p : Pg) (w : World) (h : WrL w p.pl) (hb : p.pl.2.2 ≤ 65535) : Calls Tryz.prog (signF p) #[.agg (shc p), .bool false] w fun e w' => e = .returned (.tuple #[]) ∧ SgP w' p ∧ Mod (InAd p.a) w w' := by
  cases p with
  | y a n h' f =>
    obtain ⟨l, hl, hw⟩ := h.2.1 rfl
    exact sign0Y_c a n h' f l hl (Nat.le_trans hb (by decide)) w hw
  | k a n h' f =>
    obtain ⟨l, hl, hw⟩ := h.2.2.1 rfl
    exact sign0K_c a n h' f l hl (Nat.le_trans hb (by decide)) w hw
  | s a n h' f =>
    obtain ⟨l, hl, hw⟩ := h.2.2.2 rfl
    exact sign0S_c a n h' f l hl (Nat.le_trans hb (by decide)) w hw
theorem signG1_c (p : Pg) (w : World) (h : FmL p.pl.2.1 p.pl.2.2) (hb : p.pl.2.2 ≤ 65535) : Calls Tryz.prog (signF p) #[.agg (shc p), .bool true] w fun e w' => e = .returned (.tuple #[]) ∧ Mod (fun _ => False) w w' := by
  cases p with
  | y a n h' f => exact sign1Y_c a n h' f (Nat.le_trans hb (by decide)) (sl_all bytesT h) w
  | k a n h' f => exact sign1K_c a n h' f (Nat.le_trans hb (by decide)) (sl_all keysT h) w
  | s a n h' f => exact sign1S_c a n h' f (Nat.le_trans hb (by decide)) (sl_all sgT h) w
theorem ownG_c (p : Pg) (w : World) (h : FmL p.pl.2.1 p.pl.2.2) (hb : p.pl.2.2 ≤ 65535) (hs : SgP w p) : Calls Tryz.prog (ownF p) #[.agg (shc p)] w fun e w' => e = .returned (.bool true) ∧ Mod (fun _ => False) w w' := by
  cases p with
  | y a n h' f => exact ownY_c a n h' f (Nat.le_trans hb (by decide)) (sl_all bytesT h) w hs
  | k a n h' f => exact ownK_c a n h' f (Nat.le_trans hb (by decide)) (sl_all keysT h) w hs
  | s a n h' f => exact ownS_c a n h' f (Nat.le_trans hb (by decide)) (sl_all sgT h) w hs
end Go.Proofs.YtofpnmoeimjnnaaGreat
namespace Go.Proofs.YtofpnmoeimjnnaaGreat
open Go.RowKit
open Go.ChangeMaps (setBlock)
set_option linter.unusedSimpArgs false
set_option linter.unusedVariables false
attribute [local go_sem] cell_blk frozen_blk one_int one_bool one_ptr one_slice one_map Value.cells
theorem djI {L : List Pg} (hd : (L.map Pg.pl).Pairwise DjP) {i j : Nat} {p q : Pg} (hi : L[i]? = some p) (hj : L[j]? = some q) (hij : i ≠ j) : ∀ g, InAd p.a g → ¬ InAd q.a g := by
  intro g h1 h2
  rw [← pl_a] at h1 h2
  rw [List.pairwise_map, List.pairwise_iff_getElem] at hd
  obtain ⟨hi', ei⟩ := List.getElem?_eq_some_iff.1 hi
  obtain ⟨hj', ej⟩ := List.getElem?_eq_some_iff.1 hj
  rcases Nat.lt_or_gt_of_ne hij with h | h
  · have := hd i j hi' hj' h
    rw [ei, ej] at this
    exact this g (plB_in h1) (plB_in h2)
  · have := hd j i hj' hi' h
    rw [ei, ej] at this
    exact this g (plB_in h2) (plB_in h1)
set_option maxRecDepth 20000 in
set_option maxHeartbeats 6400000 in
theorem Apart_c (r : Nat) (L : List Pg) (w : World) (h : BookAt w r L) (hL : L.length ≤ 1000000000) (hp : ∀ p ∈ L, WrL w p.pl ∧ p.pl.2.2 ≤ 65535 ∧ ∀ g ∈ plB p.pl, g < r) (hd : (L.map Pg.pl).Pairwise DjP) : Calls Tryz.prog 12 #[.pointer (some ⟨r, 0, none⟩)] w fun e w' => e = .returned (.bool true) ∧ Mod (fun g => ∃ p ∈ L, InAd p.a g) w w' := by
  obtain ⟨v, kr, hO⟩ := h
  obtain ⟨va, vc, rfl, hsl, hlt, hmx⟩ := hO.at pageT
  obtain ⟨n, hn⟩ : ∃ n, L.length = n := ⟨_, rfl⟩
  rw [hn] at kr hL
  have HS : Hid (∀ g, (∃ p ∈ L, InAd p.a g) → g < r) := Lib.hid (fun g ⟨p, hp', hg⟩ => (hp p hp').2.2 g (plB_in (by rw [pl_a]; exact hg)))
  have HSL := Lib.hid hsl
  have HLT : Hid (∀ x, va = some x → r + 1 ≤ x.block) := Lib.hid (fun x e => (hlt x e).1)
  have HP := Lib.hid hp
  have HD := Lib.hid hd
  have HN := Lib.hid hn
  clear hO hsl hlt hp hd hn hmx
  go_enter Tryz.func12, Tryz.ntmps12
  by_cases hbig : 120 < n
  · go_wp2_with fail
    go_ret
    exact ⟨rfl, Mod.refl _ _⟩
  · go_wp2_with fail
    go_loopw [3] (fun s3 ws => ∃ i : Nat, i ≤ n ∧ s3 = .int .i64 (i : Int) ∧ Hid (Mod (fun g => ∃ p ∈ L, InAd p.a g) w ws) ∧ Hid (∀ j p, L[j]? = some p → (j < i → SgP ws p) ∧ (i ≤ j → WrL ws p.pl))) (fun s3 _ => n - (intOf s3).toNat)
    case atStart => exact ⟨0, by omega, rfl, Lib.hid (Mod.refl _ _), Lib.hid (fun j p hj => ⟨fun h => by omega, fun _ => (HP.out p (List.mem_of_getElem? hj)).1⟩)⟩
    case round =>
      obtain ⟨i, hi, rfl, HM, HI⟩ := hrel
      have kr := HM.out.at kr (fun h => Nat.lt_irrefl _ (HS.out _ h))
      by_cases hlt : i < n
      ·
        obtain ⟨p, hx⟩ : ∃ p, L[i]? = some p := ⟨_, List.getElem?_eq_getElem (by have := HN.out; omega)⟩
        have hmem := List.mem_of_getElem? hx
        obtain ⟨g, o, C, U, fr, hva, kl, he, hle⟩ := (HSL.out.mod (HM.out) (fun b o e hs => by have h1 := HS.out _ hs; have h2 := HLT.out _ e; simp only at h2; omega)).block hx
        subst hva
        have c0 : C[o + i]? = some (.iface (shT p) (.agg (shc p))) := by
          have := cellC (j := 0) he (v := .iface (shT p) (.agg (shc p))) rfl
          simpa using this
        have HX := Lib.hid (And.intro hx hmem)
        clear he hle hx hmem
        go_wp2_with fail
        rw [m_sign]
        simp only [Result.andThen, e_sign, Oper.upon]
        refine (signG0_c p _ ((HI.out i p HX.out.1).2 (Nat.le_refl _)) (HP.out p HX.out.2).2.1).mono ?_
        rintro e w3 ⟨rfl, hsg, m3⟩
        have HM3 : Hid (Mod (fun g => ∃ p ∈ L, InAd p.a g) w w3) := Lib.hid (HM.out.trans (m3.mono (fun g _ hg => ⟨p, HX.out.2, hg⟩)))
        have HI3 : Hid (∀ j p, L[j]? = some p → (j < i + 1 → SgP w3 p) ∧ (i + 1 ≤ j → WrL w3 p.pl)) := Lib.hid (fun j q hj => by
          by_cases hji : j = i
          · subst hji
            rw [HX.out.1] at hj
            cases hj
            exact ⟨fun _ => hsg, fun h => by omega⟩
          · have hdj := djI HD.out hj HX.out.1 hji
            exact ⟨fun h => ((HI.out j q hj).1 (by omega)).mod m3 (fun g hg => hdj g hg), fun h => ((HI.out j q hj).2 (by omega)).mod m3 (fun g hg => hdj g (by rw [← pl_a]; exact hg))⟩)
        clear hsg m3
        go_wp2_with fail
        go_roundw
        case rel => exact ⟨i + 1, by omega, by go_num, HM3, HI3⟩
        case measure => simp [intOf]; omega
      · obtain rfl : i = n := by omega
        have HI2 : Hid (∀ p ∈ L, SgP wr p) := Lib.hid (fun p hp => by
          obtain ⟨j, hj⟩ := List.mem_iff_getElem?.1 hp
          have hj2 := (List.getElem?_eq_some_iff.1 hj).1
          exact (HI.out j p hj).1 (by have := HN.out; omega))
        clear HI
        obtain ⟨wa, rfl⟩ : ∃ wa : World, wa = wr := ⟨_, rfl⟩
        have kr1 := kr
        clear kr
        go_wp2_with fail
        go_loopw [4] (fun s4 ws => ∃ k : Nat, k ≤ i ∧ s4 = .int .i64 (k : Int) ∧ Hid (Mod (fun _ => False) wa ws)) (fun s4 _ => i - (intOf s4).toNat)
        case atStart => exact ⟨0, by omega, rfl, Lib.hid (Mod.refl _ _)⟩
        case round =>
          obtain ⟨k, hk, rfl, HM2⟩ := hrel
          have kr := HM2.out.at0 kr1
          by_cases hlt2 : k < i
          ·
            obtain ⟨p, hx⟩ : ∃ p, L[k]? = some p := ⟨_, List.getElem?_eq_getElem (by have := HN.out; omega)⟩
            have hmem := List.mem_of_getElem? hx
            obtain ⟨g, o, C, U, fr, hva, kl, he, hle⟩ := (HSL.out.mod (HM.out.then0 HM2.out) (fun b o e hs => by have h1 := HS.out _ hs; have h2 := HLT.out _ e; simp only at h2; omega)).block hx
            subst hva
            have c0 : C[o + k]? = some (.iface (shT p) (.agg (shc p))) := by
              have := cellC (j := 0) he (v := .iface (shT p) (.agg (shc p))) rfl
              simpa using this
            have HX := Lib.hid (And.intro hx hmem)
            clear he hle hx hmem
            go_wp2_with fail
            rw [m_sign]
            simp only [Result.andThen, e_sign, Oper.upon]
            refine (signG1_c p _ (HP.out p HX.out.2).1.1 (HP.out p HX.out.2).2.1).mono ?_
            rintro e w3 ⟨rfl, m3⟩
            have HM3 := Lib.hid (HM2.out.trans m3)
            clear m3
            go_wp2_with fail
            go_roundw
            case rel => exact ⟨k + 1, by omega, by go_num, HM3⟩
            case measure => simp [intOf]; omega
          · obtain rfl : i = k := by omega
            have HI3 : Hid (∀ p ∈ L, SgP wr p) := Lib.hid (fun p hp => (HI2.out p hp).mod HM2.out (fun _ _ h => h))
            have HM4 := Lib.hid (HM.out.then0 HM2.out)
            clear HI2 HM HM2 kr1 hlt2 hk
            obtain ⟨wb, rfl⟩ : ∃ wb : World, wb = wr := ⟨_, rfl⟩
            have kr1 := kr
            clear kr
            go_wp2_with fail
            go_loopw [5] (fun s5 ws => ∃ k : Nat, k ≤ i ∧ s5 = .int .i64 (k : Int) ∧ Hid (Mod (fun _ => False) wb ws)) (fun s5 _ => i - (intOf s5).toNat)
            case atStart => exact ⟨0, by omega, rfl, Lib.hid (Mod.refl _ _)⟩
            case round =>
              obtain ⟨k, hk, rfl, HM2⟩ := hrel
              have kr := HM2.out.at0 kr1
              by_cases hlt2 : k < i
              ·
                obtain ⟨p, hx⟩ : ∃ p, L[k]? = some p := ⟨_, List.getElem?_eq_getElem (by have := HN.out; omega)⟩
                have hmem := List.mem_of_getElem? hx
                obtain ⟨g, o, C, U, fr, hva, kl, he, hle⟩ := (HSL.out.mod (HM4.out.then0 HM2.out) (fun b o e hs => by have h1 := HS.out _ hs; have h2 := HLT.out _ e; simp only at h2; omega)).block hx
                subst hva
                have c0 : C[o + k]? = some (.iface (shT p) (.agg (shc p))) := by
                  have := cellC (j := 0) he (v := .iface (shT p) (.agg (shc p))) rfl
                  simpa using this
                have HX := Lib.hid (And.intro hx hmem)
                clear he hle hx hmem
                go_wp2_with fail
                rw [m_own]
                simp only [Result.andThen, e_own, Oper.upon]
                refine (ownG_c p _ (HP.out p HX.out.2).1.1 (HP.out p HX.out.2).2.1 ((HI3.out p HX.out.2).mod HM2.out (fun _ _ h => h))).mono ?_
                rintro e w3 ⟨rfl, m3⟩
                have HM3 := Lib.hid (HM2.out.trans m3)
                clear m3
                go_wp2_with fail
                go_roundw
                case rel => exact ⟨k + 1, by omega, by go_num, HM3⟩
                case measure => simp [intOf]; omega
              · obtain rfl : i = k := by omega
                have HM5 := Lib.hid (HM4.out.then0 HM2.out)
                clear HM4 HM2 HI3 kr1 hlt2 hk
                go_wp2_with fail
                go_ret
                exact ⟨rfl, HM5.out⟩
end Go.Proofs.YtofpnmoeimjnnaaGreat
namespace Go.Proofs.YtofpnmoeimjnnaaGreat
open Go.RowKit
open Go.ChangeMaps (setBlock)
set_option linter.unusedSimpArgs false
set_option linter.unusedVariables false
attribute [local go_sem] cell_blk frozen_blk one_int one_bool one_ptr one_slice one_map Value.cells
attribute [local go_sem ↓] wlKey ldKey stKey
attribute [local go_sem] kc_ext kc_one kc_one0 kc_size zKey_size one_slice
def BookV (w : World) (r : Nat) (L : List Pg) (v : Value) : Prop := w.heap[r]? = some (.cells #[v] 31 (0, 0)) ∧ SlOwn pgc 1 106 w (r + 1) v L
def Bkv (r : Nat) (v : Value) (i : Nat) : Prop := i = r ∨ v.ownBlock = some i
def BkP (r : Nat) (L M : List Pg) (v : Value) (w w' : World) : Prop := ∃ v', BookV w' r (L ++ M) v' ∧ Mod (Bkv r v) w w' ∧ ∀ i, v'.ownBlock = some i → v.ownBlock = some i ∨ w.heap.size ≤ i
theorem BookV.lt {w : World} {r : Nat} {L : List Pg} {v : Value} (h : BookV w r L v) : ∀ i, Bkv r v i → r ≤ i ∧ i < w.heap.size := by
  intro i hi
  have h1 := lt_size h.1
  rcases hi with rfl | hi
  · exact ⟨Nat.le_refl _, h1⟩
  · have := h.2.lt i hi
    exact ⟨by omega, this.2⟩
theorem BookV.mod {w w' : World} {r : Nat} {L : List Pg} {v : Value} {S : Nat → Prop} (h : BookV w r L v) (hm : Mod S w w') (hS : ∀ i, Bkv r v i → ¬ S i) : BookV w' r L v := ⟨hm.at h.1 (hS _ (.inl rfl)), h.2.mod hm (fun b hb => hS _ (.inr hb))⟩
theorem BookV.mod0 {w w' : World} {r : Nat} {L : List Pg} {v : Value} (h : BookV w r L v) (hm : Mod (fun _ => False) w w') : BookV w' r L v := h.mod hm (fun _ _ h => h)
set_option maxRecDepth 20000 in
set_option maxHeartbeats 1600000 in
theorem Bytes_c (r : Nat) (L : List Pg) (v : Value) (hL : L.length ≤ 1000000000) (a : Option Addr) (n : Nat) (w : World) (h : BookV w r L v) : Calls Tryz.prog 67 #[.pointer (some ⟨r, 0, none⟩), .slice a n n] w fun e w' => e = .returned (.tuple #[]) ∧ ∃ h f, BkP r L [.y a n h f] v w w' := by
  have hnum := number_c r L w ⟨v, h⟩ hL
  obtain ⟨m, hm⟩ : ∃ m, m = L.length + 1 := ⟨_, rfl⟩
  rw [← hm] at hnum
  obtain ⟨kr, hO⟩ := h
  obtain ⟨pa, pc, rfl, _⟩ := hO.at pageT
  have HO := Lib.hid hO
  have HL := Lib.hid hL
  have Hm := Lib.hid hm
  have hmb : m ≤ 1000000001 := by omega
  clear hO hL hm
  go_enter Tryz.func67, Tryz.ntmps67
  go_wp2_with fail
  go_at_call 65
  refine hnum.mono ?_
  rintro e w1 ⟨rfl, rfl⟩
  clear hnum
  obtain ⟨x, hx⟩ := byteOf m
  obtain ⟨y, hy'⟩ := byteOf (255 - x.toNat)
  have hy : IntKind.u8.wrap (255 - (x.toNat : Int)) = (y.toNat : Int) := by
    rw [← hy']
    have := x.toNat_lt
    congr 1
    omega
  clear hy'
  have hb := bldShY a n x y
  go_upto_region 1 with fail
  refine region_seq 16 rfl ?_
  simp only [List.range, List.range.loop]
  (refine sq_val (v := ?v1) (by simp only [zA, zB, zC]; rfl) ?hw1 ?hy1 ?hn1; (case hw1 => rfl); (case hy1 => (go_simp; (try with_reducible rfl))); (try simp only [Act.put, zF, zG, zH]))
  (refine sq_val (v := ?v2) (by simp only [zA, zB, zC]; rfl) ?hw2 ?hy2 ?hn2; (case hw2 => rfl); (case hy2 => (go_simp; (try with_reducible rfl))); (try simp only [Act.put, zF, zG, zH]))
  (refine sq_val (v := ?v3) (by simp only [zA, zB, zC]; rfl) ?hw3 ?hy3 ?hn3; (case hw3 => rfl); (case hy3 => (go_simp; (try with_reducible rfl))); (try simp only [Act.put, zF, zG, zH]))
  (refine sq_val (v := ?v4) (by simp only [zA, zB, zC]; rfl) ?hw4 ?hy4 ?hn4; (case hw4 => rfl); (case hy4 => (go_simp; (try with_reducible rfl))); (try simp only [Act.put, zF, zG, zH]))
  (refine sq_load (v := ?v5) (p := ?p5) (by simp only [zA, zB, zC]; rfl) ?hw5 rfl ?hx5 ?hy5 ?hn5; (case hw5 => rfl); (case hx5 => (simp only [Act.eval, zD, zA, zB, zC, zE]; (try rfl))); (case hy5 => (go_simp; (try with_reducible rfl))); (try simp only [Act.put, zF, zG, zH]))
  (refine sq_val (v := ?v6) (by simp only [zA, zB, zC]; rfl) ?hw6 ?hy6 ?hn6; (case hw6 => rfl); (case hy6 => (go_simp; (try with_reducible rfl))); (try simp only [Act.put, zF, zG, zH]))
  (refine sq_val (v := ?v7) (by simp only [zA, zB, zC]; rfl) ?hw7 ?hy7 ?hn7; (case hw7 => rfl); (case hy7 => (go_simp; (try with_reducible rfl))); (try simp only [Act.put, zF, zG, zH]))
  (refine sq_val (v := ?v8) (by simp only [zA, zB, zC]; rfl) ?hw8 ?hy8 ?hn8; (case hw8 => rfl); (case hy8 => (go_simp; (try with_reducible rfl))); (try simp only [Act.put, zF, zG, zH]))
  (refine sq_val (v := ?v9) (by simp only [zA, zB, zC]; rfl) ?hw9 ?hy9 ?hn9; (case hw9 => rfl); (case hy9 => (go_simp; (try with_reducible rfl))); (try simp only [Act.put, zF, zG, zH]))
  (refine sq_bldS (by simp only [zA, zB, zC]; rfl) ?hw10 rfl ?hx10 (hb _) ?hn10; (case hw10 => rfl); (case hx10 => (simp only [List.map_toArray, List.map_cons, List.map_nil, Act.eval, zD, zA, zB, zC, zE]; (try rfl))); (try simp only [Act.put, zF, zG, zH]))
  (refine sq_val (v := ?v11) (by simp only [zA, zB, zC]; rfl) ?hw11 ?hy11 ?hn11; (case hw11 => rfl); (case hy11 => (go_simp; (try with_reducible rfl))); (try simp only [Act.put, zF, zG, zH]))
  (refine sq_new (by simp only [zA, zB, zC]; rfl) ?hw12 rfl ?hx12 ((bsPage (.y a n x y)) _) (fun q19 wn gq19 kq19 mq19 => ?hn12); (case hw12 => rfl); (case hx12 => (simp only [List.map_toArray, List.map_cons, List.map_nil, Act.eval, zD, zA, zB, zC, zE]; (try rfl))); (try simp only [Act.put, zF, zG, zH]))
  have hone : SlAt pgc 1 wn (some ⟨q19, 0, none⟩) [(.y a n x y : Pg)] := SlAt.one kq19 _ rfl rfl
  obtain ⟨v3, w3, hap, hO3, m3, hn3⟩ := SlOwn.appendB pageT (c := 1) (HO.out.mod0 mq19) hone (by have := HL.out; simp; omega) (by have := HL.out; simp; omega) (by have := lt_size kr; have := mq19.size; omega) 29
  have hlo := HO.out.lt
  obtain ⟨va, vc, rfl, _⟩ := hO3.at pageT
  have HO3 := Lib.hid hO3
  have kr3 : w3.heap[r]? = _ := m3.at (mq19.at0 kr) (fun e => by have := (hlo r e).1; omega)
  replace kr := kr3
  have mA : Mod (Bkv r (.slice pa L.length pc)) w1 wn := mq19.mono (fun _ _ h => h.elim)
  have HM3 : Hid (Mod (Bkv r (.slice pa L.length pc)) w1 w3) := Lib.hid (mA.then m3 (fun i hi e => .inr e))
  have HNX : Hid (∀ i, (Value.slice va (L ++ [(.y a n x y : Pg)]).length vc).ownBlock = some i → (Value.slice pa L.length pc).ownBlock = some i ∨ (w1 : World).heap.size ≤ i) := Lib.hid (fun i hi => by
    rcases hn3 with h | h
    · exact .inl (h.symm.trans hi)
    · rw [h] at hi
      cases hi
      exact .inr mq19.size)
  clear hone m3 hn3 hO3 hlo mq19 kr3 mA
  (refine sq_append (by simp only [zA, zB, zC]; rfl) ?hw13 rfl ?hx13 ?hz13 hap ?hn13; (case hw13 => rfl); (case hx13 => (simp only [Act.eval, zD, zA, zB, zC, zE]; (try rfl))); (case hz13 => (simp only [Act.eval, zD, zA, zB, zC, zE]; (try rfl))); (try simp only [Act.put, zF, zG, zH]))
  (refine sq_val (v := ?v14) (by simp only [zA, zB, zC]; rfl) ?hw14 ?hy14 ?hn14; (case hw14 => rfl); (case hy14 => (go_simp; (try with_reducible rfl))); (try simp only [Act.put, zF, zG, zH]))
  (refine sq_val (v := ?v15) (by simp only [zA, zB, zC]; rfl) ?hw15 ?hy15 ?hn15; (case hw15 => rfl); (case hy15 => (go_simp; (try with_reducible rfl))); (try simp only [Act.put, zF, zG, zH]))
  (refine sq_store (X := ?X16) (Y := ?Y16) (w' := ?w16) (by simp only [zA, zB, zC]; rfl) ?hw16 rfl rfl ?hx16 ?hz16 ?hy16 ?hn16; (case hw16 => rfl); (case hx16 => (simp only [Act.eval, zD, zA, zB, zC, zE]; (try rfl))); (case hz16 => (simp only [Act.eval, zD, zA, zB, zC, zE]; (try rfl))); (case hy16 => (go_simp; (try with_reducible rfl))))
  (first | refine sq_set kr (fun wn kr mS => ?_) | refine sq_setCell kr (fun wn kr mS => ?_))
  refine sq_nil ?_
  have mB : Mod (Bkv r (.slice pa L.length pc)) w1 wn := HM3.out.then mS (fun i hi e => .inl e)
  have hO4 := HO3.out.mod mS (fun b hb' e => by have e' : b = r := e; have := (HO3.out.lt b hb').1; omega)
  have HF := Lib.hid (And.intro hO4 mB)
  clear hO4 mB mS
  go_wp2_with fail
  go_end0
  have kr2 := kr
  exact ⟨rfl, _, _, _, ⟨by simpa using kr2, HF.out.1⟩, HF.out.2, HNX.out⟩
end Go.Proofs.YtofpnmoeimjnnaaGreat
namespace Go.Proofs.YtofpnmoeimjnnaaGreat
open Go.RowKit
open Go.ChangeMaps (setBlock)
set_option linter.unusedSimpArgs false
set_option linter.unusedVariables false
attribute [local go_sem] cell_blk frozen_blk one_int one_bool one_ptr one_slice one_map Value.cells
attribute [local go_sem ↓] wlKey ldKey stKey wlSg ldSg stSg
attribute [local go_sem] kc_ext kc_one kc_one0 kc_size zKey_size one_slice sgc_size sgc_ext sgc_one0 sgc_one'
set_option maxRecDepth 20000 in
set_option maxHeartbeats 3200000 in
theorem Sigs_c (r : Nat) (L : List Pg) (v : Value) (hL : L.length ≤ 1000000000) (a : Option Addr) (n : Nat) (w : World) (h : BookV w r L v) : Calls Tryz.prog 35 #[.pointer (some ⟨r, 0, none⟩), .slice a n n] w fun e w' => e = .returned (.tuple #[]) ∧ ∃ h f, BkP r L [.s a n h f] v w w' := by
  have hnum := number_c r L w ⟨v, h⟩ hL
  obtain ⟨m, hm⟩ : ∃ m, m = L.length + 1 := ⟨_, rfl⟩
  rw [← hm] at hnum
  obtain ⟨kr, hO⟩ := h
  obtain ⟨pa, pc, rfl, _⟩ := hO.at pageT
  have HO := Lib.hid hO
  have HL := Lib.hid hL
  have Hm := Lib.hid hm
  have hmb : m ≤ 1000000001 := by omega
  clear hO hL hm
  go_enter Tryz.func35, Tryz.ntmps35
  go_wp2_with fail
  go_at_call 65
  refine hnum.mono ?_
  rintro e w1 ⟨rfl, rfl⟩
  clear hnum
  obtain ⟨x, hx⟩ := byteOf m
  obtain ⟨y, hy⟩ := byteOf (m / 256)
  have hdv : IntKind.i64.wrap ((m : Int) / 256) = (m : Int) / 256 := by rw [IntKind.wrap_i64]; omega
  have hy2 : IntKind.u8.wrap ((m : Int) / 256) = (y.toNat : Int) := by
    rw [← hy]
    congr 1
  have hb1 := bsbG1 x y
  have hb2 := bsbG2 x y
  have hb := bldShS a n (bs3 x y 1) (bs3 x y 2)
  clear hy
  go_upto_region 1 with fail
  refine region_seq 25 rfl ?_
  simp only [List.range, List.range.loop]
  (refine sq_val (v := ?v1) (by simp only [zA, zB, zC]; rfl) ?hw1 ?hy1 ?hn1; (case hw1 => rfl); (case hy1 => (go_simp; (try with_reducible rfl))); (try simp only [Act.put, zF, zG, zH]))
  (refine sq_val (v := ?v2) (by simp only [zA, zB, zC]; rfl) ?hw2 ?hy2 ?hn2; (case hw2 => rfl); (case hy2 => (go_simp; (try with_reducible rfl))); (try simp only [Act.put, zF, zG, zH]))
  (refine sq_val (v := ?v3) (by simp only [zA, zB, zC]; rfl) ?hw3 ?hy3 ?hn3; (case hw3 => rfl); (case hy3 => (go_simp; (try with_reducible rfl))); (try simp only [Act.put, zF, zG, zH]))
  (refine sq_val (v := ?v4) (by simp only [zA, zB, zC]; rfl) ?hw4 ?hy4 ?hn4; (case hw4 => rfl); (case hy4 => (go_simp; (try with_reducible rfl))); (try simp only [Act.put, zF, zG, zH]))
  (refine sq_load (v := ?v5) (p := ?p5) (by simp only [zA, zB, zC]; rfl) ?hw5 rfl ?hx5 ?hy5 ?hn5; (case hw5 => rfl); (case hx5 => (simp only [Act.eval, zD, zA, zB, zC, zE]; (try rfl))); (case hy5 => (go_simp; (try with_reducible rfl))); (try simp only [Act.put, zF, zG, zH]))
  (refine sq_val (v := ?v6) (by simp only [zA, zB, zC]; rfl) ?hw6 ?hy6 ?hn6; (case hw6 => rfl); (case hy6 => (go_simp; (try with_reducible rfl))); (try simp only [Act.put, zF, zG, zH]))
  (refine sq_val (v := ?v7) (by simp only [zA, zB, zC]; rfl) ?hw7 ?hy7 ?hn7; (case hw7 => rfl); (case hy7 => (go_simp; (try with_reducible rfl))); (try simp only [Act.put, zF, zG, zH]))
  (refine sq_val (v := ?v8) (by simp only [zA, zB, zC]; rfl) ?hw8 ?hy8 ?hn8; (case hw8 => rfl); (case hy8 => (go_simp; (try with_reducible rfl))); (try simp only [Act.put, zF, zG, zH]))
  (refine sq_val (v := ?v9) (by simp only [zA, zB, zC]; rfl) ?hw9 ?hy9 ?hn9; (case hw9 => rfl); (case hy9 => (go_simp; (try with_reducible rfl))); (try simp only [Act.put, zF, zG, zH]))
  (refine sq_val (v := ?v10) (by simp only [zA, zB, zC]; rfl) ?hw10 ?hy10 ?hn10; (case hw10 => rfl); (case hy10 => (go_simp; (try with_reducible rfl))); (try simp only [Act.put, zF, zG, zH]))
  (refine sq_val (v := ?v11) (by simp only [zA, zB, zC]; rfl) ?hw11 ?hy11 ?hn11; (case hw11 => rfl); (case hy11 => (go_simp; (try with_reducible rfl))); (try simp only [Act.put, zF, zG, zH]))
  (refine sq_bldS (by simp only [zA, zB, zC]; rfl) ?hw12 rfl ?hx12 (hb1 _) ?hn12; (case hw12 => rfl); (case hx12 => (simp only [List.map_toArray, List.map_cons, List.map_nil, Act.eval, zD, zA, zB, zC, zE]; (try rfl))); (try simp only [Act.put, zF, zG, zH]))
  (refine sq_val (v := ?v13) (by simp only [zA, zB, zC]; rfl) ?hw13 ?hy13 ?hn13; (case hw13 => rfl); (case hy13 => (go_simp; (try with_reducible rfl))); (try simp only [Act.put, zF, zG, zH]))
  (refine sq_val (v := ?v14) (by simp only [zA, zB, zC]; rfl) ?hw14 ?hy14 ?hn14; (case hw14 => rfl); (case hy14 => (go_simp; (try with_reducible rfl))); (try simp only [Act.put, zF, zG, zH]))
  (refine sq_val (v := ?v15) (by simp only [zA, zB, zC]; rfl) ?hw15 ?hy15 ?hn15; (case hw15 => rfl); (case hy15 => (go_simp; (try with_reducible rfl))); (try simp only [Act.put, zF, zG, zH]))
  (refine sq_val (v := ?v16) (by simp only [zA, zB, zC]; rfl) ?hw16 ?hy16 ?hn16; (case hw16 => rfl); (case hy16 => (go_simp; (try with_reducible rfl))); (try simp only [Act.put, zF, zG, zH]))
  (refine sq_val (v := ?v17) (by simp only [zA, zB, zC]; rfl) ?hw17 ?hy17 ?hn17; (case hw17 => rfl); (case hy17 => (go_simp; (try with_reducible rfl))); (try simp only [Act.put, zF, zG, zH]))
  (refine sq_bldS (by simp only [zA, zB, zC]; rfl) ?hw18 rfl ?hx18 (hb2 _) ?hn18; (case hw18 => rfl); (case hx18 => (simp only [List.map_toArray, List.map_cons, List.map_nil, Act.eval, zD, zA, zB, zC, zE]; (try rfl))); (try simp only [Act.put, zF, zG, zH]))
  (refine sq_bldS (by simp only [zA, zB, zC]; rfl) ?hw19 rfl ?hx19 (hb _) ?hn19; (case hw19 => rfl); (case hx19 => (simp only [List.map_toArray, List.map_cons, List.map_nil, Act.eval, zD, zA, zB, zC, zE]; (try rfl))); (try simp only [Act.put, zF, zG, zH]))
  (refine sq_val (v := ?v20) (by simp only [zA, zB, zC]; rfl) ?hw20 ?hy20 ?hn20; (case hw20 => rfl); (case hy20 => (go_simp; (try with_reducible rfl))); (try simp only [Act.put, zF, zG, zH]))
  (refine sq_new (by simp only [zA, zB, zC]; rfl) ?hw21 rfl ?hx21 ((bsPage (.s a n (bs3 x y 1) (bs3 x y 2))) _) (fun q27 wn gq27 kq27 mq27 => ?hn21); (case hw21 => rfl); (case hx21 => (simp only [List.map_toArray, List.map_cons, List.map_nil, Act.eval, zD, zA, zB, zC, zE]; (try rfl))); (try simp only [Act.put, zF, zG, zH]))
  have hone : SlAt pgc 1 wn (some ⟨q27, 0, none⟩) [(.s a n (bs3 x y 1) (bs3 x y 2) : Pg)] := SlAt.one kq27 _ rfl rfl
  obtain ⟨v3, w3, hap, hO3, m3, hn3⟩ := SlOwn.appendB pageT (c := 1) (HO.out.mod0 mq27) hone (by have := HL.out; simp; omega) (by have := HL.out; simp; omega) (by have := lt_size kr; have := mq27.size; omega) 29
  have hlo := HO.out.lt
  obtain ⟨va, vc, rfl, _⟩ := hO3.at pageT
  have HO3 := Lib.hid hO3
  have kr3 : w3.heap[r]? = _ := m3.at (mq27.at0 kr) (fun e => by have := (hlo r e).1; omega)
  replace kr := kr3
  have mA : Mod (Bkv r (.slice pa L.length pc)) w1 wn := mq27.mono (fun _ _ h => h.elim)
  have HM3 : Hid (Mod (Bkv r (.slice pa L.length pc)) w1 w3) := Lib.hid (mA.then m3 (fun i hi e => .inr e))
  have HNX : Hid (∀ i, (Value.slice va (L ++ [(.s a n (bs3 x y 1) (bs3 x y 2) : Pg)]).length vc).ownBlock = some i → (Value.slice pa L.length pc).ownBlock = some i ∨ (w1 : World).heap.size ≤ i) := Lib.hid (fun i hi => by
    rcases hn3 with h | h
    · exact .inl (h.symm.trans hi)
    · rw [h] at hi
      cases hi
      exact .inr mq27.size)
  clear hone m3 hn3 hO3 hlo mq27 kr3 mA
  (refine sq_append (by simp only [zA, zB, zC]; rfl) ?hw22 rfl ?hx22 ?hz22 hap ?hn22; (case hw22 => rfl); (case hx22 => (simp only [Act.eval, zD, zA, zB, zC, zE]; (try rfl))); (case hz22 => (simp only [Act.eval, zD, zA, zB, zC, zE]; (try rfl))); (try simp only [Act.put, zF, zG, zH]))
  (refine sq_val (v := ?v23) (by simp only [zA, zB, zC]; rfl) ?hw23 ?hy23 ?hn23; (case hw23 => rfl); (case hy23 => (go_simp; (try with_reducible rfl))); (try simp only [Act.put, zF, zG, zH]))
  (refine sq_val (v := ?v24) (by simp only [zA, zB, zC]; rfl) ?hw24 ?hy24 ?hn24; (case hw24 => rfl); (case hy24 => (go_simp; (try with_reducible rfl))); (try simp only [Act.put, zF, zG, zH]))
  (refine sq_store (X := ?X25) (Y := ?Y25) (w' := ?w25) (by simp only [zA, zB, zC]; rfl) ?hw25 rfl rfl ?hx25 ?hz25 ?hy25 ?hn25; (case hw25 => rfl); (case hx25 => (simp only [Act.eval, zD, zA, zB, zC, zE]; (try rfl))); (case hz25 => (simp only [Act.eval, zD, zA, zB, zC, zE]; (try rfl))); (case hy25 => (go_simp; (try with_reducible rfl))))
  (first | refine sq_set kr (fun wn kr mS => ?_) | refine sq_setCell kr (fun wn kr mS => ?_))
  refine sq_nil ?_
  have mB : Mod (Bkv r (.slice pa L.length pc)) w1 wn := HM3.out.then mS (fun i hi e => .inl e)
  have hO4 := HO3.out.mod mS (fun b hb' e => by have e' : b = r := e; have := (HO3.out.lt b hb').1; omega)
  have HF := Lib.hid (And.intro hO4 mB)
  clear hO4 mB mS
  go_wp2_with fail
  go_end0
  have kr2 := kr
  exact ⟨rfl, _, _, _, ⟨by simpa using kr2, HF.out.1⟩, HF.out.2, HNX.out⟩
set_option maxRecDepth 20000 in
set_option maxHeartbeats 3200000 in
theorem Keys_c (r : Nat) (L : List Pg) (v : Value) (hL : L.length ≤ 1000000000) (a : Option Addr) (n : Nat) (w : World) (h : BookV w r L v) : Calls Tryz.prog 66 #[.pointer (some ⟨r, 0, none⟩), .slice a n n] w fun e w' => e = .returned (.tuple #[]) ∧ ∃ h f, BkP r L [.k a n h f] v w w' := by
  have hnum := number_c r L w ⟨v, h⟩ hL
  obtain ⟨m, hm⟩ : ∃ m, m = L.length + 1 := ⟨_, rfl⟩
  rw [← hm] at hnum
  obtain ⟨kr, hO⟩ := h
  obtain ⟨pa, pc, rfl, _⟩ := hO.at pageT
  have HO := Lib.hid hO
  have HL := Lib.hid hL
  have Hm := Lib.hid hm
  have hmb : m ≤ 1000000001 := by omega
  clear hO hL hm
  go_enter Tryz.func66, Tryz.ntmps66
  go_wp2_with fail
  go_at_call 65
  refine hnum.mono ?_
  rintro e w1 ⟨rfl, rfl⟩
  clear hnum
  obtain ⟨x, hx⟩ := byteOf m
  obtain ⟨y, hy'⟩ := byteOf (m / 256)
  have hy : IntKind.u8.wrap ((m : Int) / 256) = (y.toNat : Int) := by
    rw [← hy']
    congr 1
  have HKX := Lib.hid (And.intro hx hy)
  clear hy hy' hx
  have hsh := bldShK a n (bk3 x y 1) (bk3 x y 2)
  have hbp := bsPage (.k a n (bk3 x y 1) (bk3 x y 2))
  go_upto_region 1 with fail
  have Lkr := lt_size kr
  refine wp_pass (C := fun _ args v => (args = #[.int .i64 (m : Int), .int .u8 1] → v = .agg (kc (bk3 x y 1))) ∧ (args = #[.int .i64 (m : Int), .int .u8 2] → v = .agg (kc (bk3 x y 2)))) (κ := fun i => [0, 0, 0, 0, 1, 0, 0, 2, 0, 2, 0, 0, 3, 5, 0, 0, 6].getD i 0) [0, 1, 2, 3, 4, 5, 6, 7, 8, 9, 10, 11, 12, 13, 14, 15, 16] (by kernel_rfl) (by kernel_rfl) (fun _ _ d _ _ h => by cases d <;> first | exact h | exact absurd h (hP _ _ _)) ?_
  (refine TD.val0 (v := ?v26) (by simp only [zA, zB, zC]; rfl) rfl ?hw26 (fun w1 => ?hy26) ?hn26; (case hw26 => rfl); (case hy26 => (go_simp; (try with_reducible rfl))); (try simp only [Act.put, zF, zG, zH]))
  (refine TD.val0 (v := ?v27) (by simp only [zA, zB, zC]; rfl) rfl ?hw27 (fun w1 => ?hy27) ?hn27; (case hw27 => rfl); (case hy27 => (go_simp; (try with_reducible rfl))); (try simp only [Act.put, zF, zG, zH]))
  (refine TD.val0 (v := ?v28) (by simp only [zA, zB, zC]; rfl) rfl ?hw28 (fun w1 => ?hy28) ?hn28; (case hw28 => rfl); (case hy28 => (go_simp; (try with_reducible rfl))); (try simp only [Act.put, zF, zG, zH]))
  (refine TD.val0 (v := ?v29) (by simp only [zA, zB, zC]; rfl) rfl ?hw29 (fun w1 => ?hy29) ?hn29; (case hw29 => rfl); (case hy29 => (go_simp; (try with_reducible rfl))); (try simp only [Act.put, zF, zG, zH]))
  (refine TD.load (v := ?v30) (p := ?p30) (Mod.refl _ _) (by simp only [zA, zB, zC]; rfl) rfl ?hw30 rfl ?hx30 (fun wq hSq => ?hy30) ?hn30; (case hw30 => rfl); (case hx30 => (simp only [Act.eval, zD, zA, zB, zC, zE]; (try rfl))); (case hy30 => (have krq := hSq.at kr (fun h => h); go_simp; (try with_reducible rfl))); (try simp only [Act.put, zF, zG, zH]))
  (refine TD.val0 (v := ?v31) (by simp only [zA, zB, zC]; rfl) rfl ?hw31 (fun w1 => ?hy31) ?hn31; (case hw31 => rfl); (case hy31 => (go_simp; (try with_reducible rfl))); (try simp only [Act.put, zF, zG, zH]))
  (refine TD.val0 (v := ?v32) (by simp only [zA, zB, zC]; rfl) rfl ?hw32 (fun w1 => ?hy32) ?hn32; (case hw32 => rfl); (case hy32 => (go_simp; (try with_reducible rfl))); (try simp only [Act.put, zF, zG, zH]))
  (refine TD.call (f := ?f33) (args := ?r33) (Mod.refl _ _) (by simp only [zA, zB, zC]; rfl) rfl ?hw33 (fun w1 => ?hy33) ?hsp33 ?hn33; (case hw33 => rfl); (case hy33 => (go_simp; (first | with_reducible rfl | (constructor <;> with_reducible rfl)))); (case hsp33 => (intro wq hSq; have krq := hSq.at kr (fun h => h); exact (keyG_c m (by omega) HKX.out.1 HKX.out.2 1 wq).mono (fun e w' h => ⟨_, h.1, ⟨fun _ => rfl, fun e => by simp at e⟩, h.2⟩))); rintro _ hC; obtain rfl := hC.1 rfl; (try simp only [Act.put, zF, zG, zH]))
  (refine TD.val0 (v := ?v34) (by simp only [zA, zB, zC]; rfl) rfl ?hw34 (fun w1 => ?hy34) ?hn34; (case hw34 => rfl); (case hy34 => (go_simp; (try with_reducible rfl))); (try simp only [Act.put, zF, zG, zH]))
  (refine TD.call (f := ?f35) (args := ?r35) (Mod.refl _ _) (by simp only [zA, zB, zC]; rfl) rfl ?hw35 (fun w1 => ?hy35) ?hsp35 ?hn35; (case hw35 => rfl); (case hy35 => (go_simp; (first | with_reducible rfl | (constructor <;> with_reducible rfl)))); (case hsp35 => (intro wq hSq; have krq := hSq.at kr (fun h => h); exact (keyG_c m (by omega) HKX.out.1 HKX.out.2 2 wq).mono (fun e w' h => ⟨_, h.1, ⟨fun e => by simp at e, fun _ => rfl⟩, h.2⟩))); rintro _ hC; obtain rfl := hC.2 rfl; (try simp only [Act.put, zF, zG, zH]))
  (refine TD.build (v := ?v36) (ps := ?p36) (by simp only [zA, zB, zC]; rfl) rfl ?hw36 rfl ?hx36 (fun w1 => ?hy36) ?hn36; (case hw36 => rfl); (case hx36 => (simp only [List.map_toArray, List.map_cons, List.map_nil, Act.eval, zD, zA, zB, zC, zE]; (try rfl))); (case hy36 => (rw [hsh]; (try with_reducible rfl))); (try simp only [Act.put, zF, zG, zH]))
  (refine TD.val0 (v := ?v37) (by simp only [zA, zB, zC]; rfl) rfl ?hw37 (fun w1 => ?hy37) ?hn37; (case hw37 => rfl); (case hy37 => (go_simp; (try with_reducible rfl))); (try simp only [Act.put, zF, zG, zH]))
  (refine TD.bslice (by simp only [zA, zB, zC]; rfl) rfl ?hw38 rfl rfl ?hx38 hbp (fun p19 hp19 => ?hn38); (case hw38 => rfl); (case hx38 => (simp only [List.map_toArray, List.map_cons, List.map_nil, Act.eval, zD, zA, zB, zC, zE]; (try rfl))); (try simp only [Act.put, zF, zG, zH]))
  refine TD.eff (by simp only [zA, zB, zC]; rfl) rfl (fun w2 hr => ?_)
  replace kr := hr.mod.at kr (fun h => h)
  have kp19 := hr.box p19 _ (by first | exact Bx.set_same _ _ _ | (simp only [Bx.set_same]; rfl)); dsimp only [Value.cells] at kp19; obtain ⟨gp19, kp19⟩ := kp19
  have hmm := hr.mod
  clear hr hsh hbp
  have hone : SlAt pgc 1 w2 (some ⟨p19, 0, none⟩) [(.k a n (bk3 x y 1) (bk3 x y 2) : Pg)] := SlAt.one kp19 _ rfl rfl
  obtain ⟨v3, w3, hap, hO3, m3, hn3⟩ := SlOwn.appendB pageT (c := 1) (HO.out.mod0 hmm) hone (by have := HL.out; simp; omega) (by have := HL.out; simp; omega) (by have := lt_size kr; have := hmm.size; omega) 29
  have hlo := HO.out.lt
  obtain ⟨va, vc, rfl, _⟩ := hO3.at pageT
  have HO3 := Lib.hid hO3
  have kr3 : w3.heap[r]? = _ := m3.at kr (fun e => by have := (hlo r e).1; omega)
  replace kr := kr3
  have mA : Mod (Bkv r (.slice pa L.length pc)) w1 w2 := hmm.mono (fun _ _ h => h.elim)
  have HM3 : Hid (Mod (Bkv r (.slice pa L.length pc)) w1 w3) := Lib.hid (mA.then m3 (fun i hi e => .inr e))
  have HNX : Hid (∀ i, (Value.slice va (L ++ [(.k a n (bk3 x y 1) (bk3 x y 2) : Pg)]).length vc).ownBlock = some i → (Value.slice pa L.length pc).ownBlock = some i ∨ (w1 : World).heap.size ≤ i) := Lib.hid (fun i hi => by
    rcases hn3 with h | h
    · exact .inl (h.symm.trans hi)
    · rw [h] at hi
      cases hi
      exact .inr hmm.size)
  clear hone m3 hn3 hO3 hlo hmm kr3 mA
  (refine eff_append (by simp only [zA, zB, zC]; rfl) ?hw40 rfl ?hx40 ?hz40 hap ?hn40; (case hw40 => rfl); (case hx40 => (simp only [Act.eval, zD, zA, zB, zC, zE]; (try rfl))); (case hz40 => (simp only [Act.eval, zD, zA, zB, zC, zE]; (try rfl))); (try simp only [Act.put, zF, zG, zH]))
  (refine TE.val0 (v := ?v41) (by simp only [zA, zB, zC]; rfl) ?hw41 (fun w1 => ?hy41) ?hn41; (case hw41 => rfl); (case hy41 => (go_simp; (try with_reducible rfl))); (try simp only [Act.put, zF, zG, zH]))
  (refine TE.val0 (v := ?v42) (by simp only [zA, zB, zC]; rfl) ?hw42 (fun w1 => ?hy42) ?hn42; (case hw42 => rfl); (case hy42 => (go_simp; (try with_reducible rfl))); (try simp only [Act.put, zF, zG, zH]))
  refine TE.step (by simp only [zA, zB, zC]; rfl) rfl ?_
  (refine eff_store (X := ?X43) (Y := ?Y43) (w' := ?w43) (by simp only [zA, zB, zC]; rfl) ?hw43 rfl ?hx43 ?hz43 ?hy43 ?hn43; (case hw43 => rfl); (case hx43 => (simp only [Act.eval, zD, zA, zB, zC, zE]; (try rfl))); (case hz43 => (simp only [Act.eval, zD, zA, zB, zC, zE]; (try rfl))); (case hy43 => (go_simp; (try with_reducible rfl))))
  (first | refine TE.nil_set kr (fun wn kr mS => ?_) | refine TE.nil_setCell kr (fun wn kr mS => ?_))
  (try simp only [Array.setIfInBounds, zF, zG, zH] at kr)
  have mB : Mod (Bkv r (.slice pa L.length pc)) w1 wn := HM3.out.then mS (fun i hi e => .inl e)
  have hO4 := HO3.out.mod mS (fun b hb' e => by have e' : b = r := e; have := (HO3.out.lt b hb').1; omega)
  have HF := Lib.hid (And.intro hO4 mB)
  clear hO4 mB mS
  go_wp2_with fail
  go_end0
  have kr2 := kr
  exact ⟨rfl, _, _, _, ⟨by simpa using kr2, HF.out.1⟩, HF.out.2, HNX.out⟩
end Go.Proofs.YtofpnmoeimjnnaaGreat
namespace Go.Proofs.YtofpnmoeimjnnaaGreat
open Go.RowKit
open Go.ChangeMaps (setBlock)
set_option linter.unusedSimpArgs false
set_option linter.unusedVariables false
attribute [local go_sem] cell_blk frozen_blk one_int one_bool one_ptr one_slice one_map Value.cells
attribute [local go_sem ↓] wlKey ldKey stKey wlMsg ldMsg stMsg wlTc ldTc stTc
attribute [local go_sem] kc_ext kc_one kc_one0 kc_size zKey_size one_slice mgx_size mgx_ext mgx_one mgx_one0 mg0 mg1 mg2 mg3 mg4 mg37 mg38 mg37' mg38' mgx_hd mgx_hs mg0' mg4' txr_ms txr_size txr_all txr_one txr_one' txr0 txr0'
def BkQ (r : Nat) (L : List Pg) (Q : List Pl) (v : Value) (w w' : World) : Prop := ∃ M, M.map Pg.pl = Q ∧ BkP r L M v w w'
theorem bk_then {r : Nat} {L M N : List Pg} {v v1 : Value} {w w1 w2 : World} (hm : Mod (Bkv r v) w w1) (hg : ∀ i, v1.ownBlock = some i → v.ownBlock = some i ∨ w.heap.size ≤ i) (h2 : BkP r (L ++ M) N v1 w1 w2) : BkP r L (M ++ N) v w w2 := by
  obtain ⟨v2, hB, m2, g2⟩ := h2
  refine ⟨v2, by rw [← List.append_assoc]; exact hB, hm.then m2 (fun i hi hs => ?_), fun i hi => ?_⟩
  · rcases hs with hs | hs
    · exact .inl hs
    · rcases hg i hs with h | h
      · exact .inr h
      · omega
  · rcases g2 i hi with h | h
    · exact hg i h
    · exact .inr (Nat.le_trans hm.size h)
def BkS (r p : Nat) (L : List Pg) (Q : List Pl) (v : Value) (w w' : World) : Prop := ∃ M v', M.map Pg.pl = Q ∧ BookV w' r (L ++ M) v' ∧ Mod (Bkv r v) w w' ∧ (∀ i, v'.ownBlock = some i → v.ownBlock = some i ∨ w.heap.size ≤ i) ∧ ¬ Bkv r v' p
theorem BkS.start {r p : Nat} {L : List Pg} {v : Value} {w w' : World} (h : BookV w r L v) (hm : Mod (fun _ => False) w w') (hp : w.heap.size ≤ p) : BkS r p L [] v w w' := by
  refine ⟨[], v, rfl, ?_, hm.mono (fun _ _ h => h.elim), fun i hi => .inl hi, fun hb => ?_⟩
  · rw [List.append_nil]
    exact h.mod0 hm
  · have := (h.lt p hb).2
    omega
theorem BkS.step {r p : Nat} {L M N : List Pg} {Q Q2 : List Pl} {v v1 : Value} {w w1 w2 : World} (eM : M.map Pg.pl = Q) (hm : Mod (Bkv r v) w w1) (hg : ∀ i, v1.ownBlock = some i → v.ownBlock = some i ∨ w.heap.size ≤ i) (hp : ¬ Bkv r v1 p) (hlt : p < w1.heap.size) (eN : N.map Pg.pl = Q2) (h2 : BkP r (L ++ M) N v1 w1 w2) : BkS r p L (Q ++ Q2) v w w2 := by
  obtain ⟨v2, hB, m2, g2⟩ := bk_then hm hg h2
  obtain ⟨v3, hB3, m3, g3⟩ := h2
  refine ⟨M ++ N, v3, by rw [List.map_append, eM, eN], by rw [← List.append_assoc]; exact hB3, m2, fun i hi => ?_, fun hb => ?_⟩
  · rcases g3 i hi with h | h
    · exact hg i h
    · exact .inr (Nat.le_trans hm.size h)
  · rcases hb with hb | hb
    · exact hp (.inl hb)
    · rcases g3 p hb with h | h
      · exact hp (.inr h)
      · omega
theorem BkS.q {r p : Nat} {L : List Pg} {Q : List Pl} {v : Value} {w w' : World} (h : BkS r p L Q v w w') : BkQ r L Q v w w' := by
  obtain ⟨M, v', e, hB, hm, hg, _⟩ := h
  exact ⟨M, e, v', hB, hm, hg⟩
def MsgF (r : Nat) (w : World) (x : RdR) : Prop :=
  (SlAt inr 3 w x.ins.a x.ins.l ∧ (∀ g o, x.ins.a = some ⟨g, o, none⟩ → g < r) ∧ x.ins.l.length ≤ 65535 ∧ ∀ i ∈ x.ins.l, i.a.c = i.a.l.length ∧ i.d.c = i.d.l.length) ∧
  (SlAt lor 34 w x.lks.a x.lks.l ∧ (∀ g o, x.lks.a = some ⟨g, o, none⟩ → g < r) ∧ x.lks.l.length ≤ 65535 ∧ ∀ i ∈ x.lks.l, i.w.c = i.w.l.length ∧ i.r.c = i.r.l.length) ∧ x.ks.c = x.ks.l.length
theorem MsgF.mod {r : Nat} {w w' : World} {x : RdR} {S : Nat → Prop} (h : MsgF r w x) (hm : Mod S w w') (hS : ∀ i, S i → r ≤ i) : MsgF r w' x :=
  ⟨⟨h.1.1.mod hm (fun b o e hs => by have := h.1.2.1 b o e; have := hS _ hs; omega), h.1.2⟩, ⟨h.2.1.1.mod hm (fun b o e hs => by have := h.2.1.2.1 b o e; have := hS _ hs; omega), h.2.1.2⟩, h.2.2⟩
theorem NewS.cap {α : Type} {f : α → Array Value} {n : Nat} {E : TypeId} {b m c : Nat} {w : World} {a : Option Addr} {l : List α} (h : NewS f n E b w (.slice a m c) l) : c = l.length := by
  rcases h with ⟨h1, h2⟩ | ⟨g, cur, h1, _⟩
  · injection h1 with _ _ h1
    subst h2
    exact h1
  · injection h1
theorem TxO.f {b r : Nat} {w : World} {x : RdR} (h : TxO b w x) (hB : TxB (txP x)) (hr : w.heap.size ≤ r) : MsgF r w x ∧ x.sg.c = x.sg.l.length := by
  obtain ⟨h1, h2, h3, h4, h5, h6, h7⟩ := h
  obtain ⟨b1, b2, ⟨b3, b4⟩, b5, b6⟩ := hB
  simp only [txP, msgP, List.length_map] at b1 b2 b3 b4 b5 b6
  refine ⟨⟨⟨(WAtG.of h3).sl, fun g o e => ?_, b3, fun i hi => ?_⟩, ⟨(WAtG.of h5).sl, fun g o e => ?_, b5, fun i hi => ?_⟩, h2.cap⟩, h1.cap⟩
  · have := (h3.lt g (by rw [e]; rfl)).2
    omega
  · obtain ⟨y, hy, _, e2, e3, e4, e5⟩ := h4.1.left i hi
    rw [← e2] at e4
    rw [← e3] at e5
    exact ⟨e4.cap, e5.cap⟩
  · have := (h5.lt g (by rw [e]; rfl)).2
    omega
  · obtain ⟨y, hy, _, e2, e3, e4, e5⟩ := h6.1.left i hi
    rw [← e2] at e4
    rw [← e3] at e5
    exact ⟨e4.cap, e5.cap⟩
theorem insPl_snoc (l : List InR) (x : InR) : insPl (l ++ [x]) = (insPl l ++ [(0, x.a.a, x.a.l.length)]) ++ [(0, x.d.a, x.d.l.length)] := by simp [insPl]
theorem losPl_snoc (l : List LoR) (x : LoR) : losPl (l ++ [x]) = (losPl l ++ [(0, x.w.a, x.w.l.length)]) ++ [(0, x.r.a, x.r.l.length)] := by simp [losPl]
theorem take_snoc {α : Type} {l : List α} {i : Nat} {x : α} (h : l[i]? = some x) : l.take (i + 1) = l.take i ++ [x] := by rw [List.take_add_one, h]; rfl
set_option maxRecDepth 20000 in
set_option maxHeartbeats 6400000 in
theorem Message_c (x : RdR) (r : Nat) (L : List Pg) (v : Value) (hL : L.length ≤ 900000000) (w : World) (h : BookV w r L v) (hf : MsgF r w x) : Calls Tryz.prog 36 #[.pointer (some ⟨r, 0, none⟩), .agg (msr x)] w fun e w' => e = .returned (.tuple #[]) ∧ BkQ r L (msgPl x) v w w' := by
  obtain ⟨bx, sgx, v0, h0, h1, h2, ks, rc, ins, lks, rox, ux, px, badx, fx, cx, qx⟩ := x
  obtain ⟨ka, K, kcap⟩ := ks
  obtain ⟨ia, I, ic⟩ := ins
  obtain ⟨la, Lk, lc⟩ := lks
  obtain ⟨f1, f2, f3⟩ := hf
  simp only at f1 f2 f3
  subst f3
  obtain ⟨nK, hnK⟩ : ∃ n, K.length = n := ⟨_, rfl⟩
  obtain ⟨nI, hI⟩ : ∃ n, I.length = n := ⟨_, rfl⟩
  obtain ⟨nL, hLk⟩ : ∃ n, Lk.length = n := ⟨_, rfl⟩
  show Calls Tryz.prog 36 #[.pointer (some ⟨r, 0, none⟩), .agg (mgx v0 h0 h1 h2 ka K.length K.length rc ia I.length ic la Lk.length lc)] w fun e w' => e = .returned (.tuple #[]) ∧ BkQ r L ((1, ka, K.length) :: (insPl I ++ losPl Lk)) v w w'
  rw [hnK, hI, hLk]
  have hb1 : nI ≤ 65535 := by rw [← hI]; exact f1.2.2.1
  have hb2 : nL ≤ 65535 := by rw [← hLk]; exact f2.2.2.1
  have HN := Lib.hid (And.intro hL (And.intro hI hLk))
  have HF1 := Lib.hid f1
  have HF2 := Lib.hid f2
  have HB0 := Lib.hid h
  have HR : Hid (∀ i, Bkv r v i → r ≤ i) := Lib.hid (fun i hi => (h.lt i hi).1)
  clear hL hI hLk hnK f1 f2 h
  go_enter Tryz.func36, Tryz.ntmps36
  go_upto_region 0 with fail
  refine wp_pass0 (C := fun _ _ _ => False) (κ := fun i => [3].getD i 0) [0] (by kernel_rfl) (by kernel_rfl) (fun _ _ d _ _ h => by cases d <;> first | exact h | exact absurd h (hP _ _ _)) ?_
  (refine TD.box (v := ?v1) (by simp only [zA, zB, zC]; rfl) rfl ?hw1 rfl rfl ?hx1 (fun p3 hp3 => ?hn1); (case hw1 => rfl); (case hx1 => (simp only [Act.eval, zD, zA, zB, zC, zE]; (try rfl))); (try simp only [Act.put, zF, zG, zH]))
  refine TD.nil (fun w1 hr => ?_)
  have kp3 := hr.box p3 _ (by first | exact Bx.set_same _ _ _ | (simp only [Bx.set_same]; rfl)); dsimp only [Value.cells] at kp3; obtain ⟨gp3, kp3⟩ := kp3
  have HS := Lib.hid (BkS.start HB0.out hr.mod gp3)
  clear hr
  go_wp2_with fail
  go_at_call 66
  obtain ⟨M, v1, eM, hB, hm, hg, hp⟩ := HS.out
  refine (Keys_c r (L ++ M) v1 (by have hlM := congrArg List.length eM; rw [List.length_map] at hlM; rw [List.length_append]; have := HN.out; simp only [List.length_nil, List.length_cons] at hlM; omega) ka nK _ hB).mono ?_
  rintro e w2 ⟨rfl, h', f', hP⟩
  have hP2 := hP
  obtain ⟨v9, hB9, m9, g9⟩ := hP2
  have HS2 : Hid (BkS r p3 L ((1, ka, nK) :: (insPl (I.take 0) ++ losPl (Lk.take 0))) v w w2) := Lib.hid (BkS.step eM hm hg hp (lt_size kp3) (Q2 := [(1, ka, nK)]) rfl hP)
  replace kp3 := m9.at kp3 hp
  clear hP hB9 m9 g9 eM hB hm hg hp HS
  go_wp2_with fail
  go_loopw [4] (fun s4 ws => ∃ i : Nat, i ≤ nI ∧ s4 = .int .i64 (i : Int) ∧ Hid (BkS r p3 L ((1, ka, nK) :: insPl (I.take i)) v w ws) ∧ ws.heap[p3]? = some (.cells (mgx v0 h0 h1 h2 ka nK nK rc ia nI ic la nL lc) 43 (0, 0))) (fun s4 _ => nI - (intOf s4).toNat)
  case atStart => exact ⟨0, by omega, rfl, HS2, kp3⟩
  case round =>
    clear kp3 HS2
    obtain ⟨i, hi, rfl, HS, kp3⟩ := hrel
    by_cases hlt : i < nI
    · --{
      obtain ⟨x, hx⟩ : ∃ x, I[i]? = some x := ⟨_, List.getElem?_eq_getElem (by have := HN.out.2.1; omega)⟩
      obtain ⟨_, _, _, _, hM0, _, _⟩ := HS.out
      obtain ⟨g, o, C, U, fr, hga, kg, c0, c1, c2⟩ := in_partsS (HF1.out.1.mod hM0 (fun b o e hs => by have h1 := HF1.out.2.1 b o e; have h2 := HR.out _ hs; omega)) hx
      have hgr := HF1.out.2.1 g o hga
      have hcc := HF1.out.2.2.2 x (List.mem_of_getElem? hx)
      rw [hcc.1] at c1
      rw [hcc.2] at c2
      subst hga
      have HTK := Lib.hid (take_snoc hx)
      have HHX := Lib.hid hx
      clear hM0 hcc c0 hx
      obtain ⟨px, ⟨ax, lx, cx⟩, ⟨dx, mx', ex⟩⟩ := x
      simp only at c1 c2
      obtain ⟨n1, hn1⟩ : ∃ n, lx.length = n := ⟨_, rfl⟩
      obtain ⟨n2, hn2⟩ : ∃ n, mx'.length = n := ⟨_, rfl⟩
      rw [hn1] at c1
      rw [hn2] at c2
      have HNN := Lib.hid (And.intro hn1 hn2)
      clear hn1 hn2
      go_wp2_with fail
      go_at_call 67
      obtain ⟨M, v1, eM, hB, hm, hg, hp⟩ := HS.out
      have hlM : M.length = ((1, ka, nK) :: insPl (I.take i)).length := by rw [← eM, List.length_map]
      simp only [List.length_append, List.length_cons, List.length_nil, insPl_len, losPl_len, List.length_take] at hlM
      have hBL := hB.lt
      refine (Bytes_c r (L ++ M) v1 (by rw [List.length_append]; have := HN.out; omega) _ _ _ hB).mono ?_
      rintro e w3 ⟨rfl, h', f', hP⟩
      have hP2 := hP
      obtain ⟨v9, hB9, m9, g9⟩ := hP2
      have HS3 := Lib.hid (BkS.step eM hm hg hp (lt_size kp3) (Q2 := [(0, ax, n1)]) rfl hP)
      replace kp3 := m9.at kp3 hp
      replace kg := m9.at kg (fun hb => by have := (hBL _ hb).1; omega)
      clear hP hB9 m9 g9 eM hB hm hg hp hlM hBL HS
      have HS := HS3
      clear HS3
      go_wp2_with fail
      go_at_call 67
      obtain ⟨M, v1, eM, hB, hm, hg, hp⟩ := HS.out
      have hlM : M.length = ((1, ka, nK) :: insPl (I.take i) ++ [(0, ax, n1)]).length := by rw [← eM, List.length_map]
      simp only [List.length_append, List.length_cons, List.length_nil, insPl_len, losPl_len, List.length_take] at hlM
      have hBL := hB.lt
      refine (Bytes_c r (L ++ M) v1 (by rw [List.length_append]; have := HN.out; omega) _ _ _ hB).mono ?_
      rintro e w3 ⟨rfl, h', f', hP⟩
      have hP2 := hP
      obtain ⟨v9, hB9, m9, g9⟩ := hP2
      have HS3 := Lib.hid (BkS.step eM hm hg hp (lt_size kp3) (Q2 := [(0, dx, n2)]) rfl hP)
      replace kp3 := m9.at kp3 hp
      replace kg := m9.at kg (fun hb => by have := (hBL _ hb).1; omega)
      clear hP hB9 m9 g9 eM hB hm hg hp hlM hBL HS
      have HS := HS3
      clear HS3
      have HS4 : Hid (BkS r p3 L ((1, ka, nK) :: insPl (I.take (i + 1))) v w w3) := Lib.hid (by
        rw [HTK.out, insPl_snoc]
        simp only [HNN.out.1, HNN.out.2]
        exact HS.out)
      clear HS
      go_wp2_with fail
      go_roundw
      case rel => exact ⟨i + 1, by omega, by go_num, HS4, kp3⟩
      case measure => simp [intOf]; omega
    · obtain rfl : nI = i := by omega
      have HS2 : Hid (BkS r p3 L ((1, ka, nK) :: (insPl I ++ losPl (Lk.take 0))) v w wr) := Lib.hid (by
        have := HS.out
        rw [List.take_of_length_le (by have := HN.out.2.1; omega)] at this
        rw [List.take_zero, losPl, List.flatMap_nil, List.append_nil]
        exact this)
      clear HS hi hlt
      obtain ⟨wa, rfl⟩ : ∃ wa : World, wa = wr := ⟨_, rfl⟩
      have kp3a := kp3
      clear kp3
      go_wp2_with fail
      go_loopw [5] (fun s5 ws => ∃ i : Nat, i ≤ nL ∧ s5 = .int .i64 (i : Int) ∧ Hid (BkS r p3 L ((1, ka, nK) :: (insPl I ++ losPl (Lk.take i))) v w ws) ∧ ws.heap[p3]? = some (.cells (mgx v0 h0 h1 h2 ka nK nK rc ia nI ic la nL lc) 43 (0, 0))) (fun s5 _ => nL - (intOf s5).toNat)
      case atStart => exact ⟨0, by omega, rfl, HS2, kp3a⟩
      case round =>
        clear kp3a HS2
        obtain ⟨i, hi, rfl, HS, kp3⟩ := hrel
        by_cases hlt : i < nL
        · --{
          obtain ⟨x, hx⟩ : ∃ x, Lk[i]? = some x := ⟨_, List.getElem?_eq_getElem (by have := HN.out.2.2; omega)⟩
          obtain ⟨_, _, _, _, hM0, _, _⟩ := HS.out
          obtain ⟨g, o, C, U, fr, hga, kg, c0, hle, c1, c2⟩ := lo_partsS (HF2.out.1.mod hM0 (fun b o e hs => by have h1 := HF2.out.2.1 b o e; have h2 := HR.out _ hs; omega)) hx
          have hgr := HF2.out.2.1 g o hga
          have hcc := HF2.out.2.2.2 x (List.mem_of_getElem? hx)
          rw [hcc.1] at c1
          rw [hcc.2] at c2
          subst hga
          have HTK := Lib.hid (take_snoc hx)
          have HHX := Lib.hid hx
          clear hM0 hcc c0 hx hle
          obtain ⟨px, ⟨ax, lx, cx⟩, ⟨dx, mx', ex⟩⟩ := x
          simp only at c1 c2
          obtain ⟨n1, hn1⟩ : ∃ n, lx.length = n := ⟨_, rfl⟩
          obtain ⟨n2, hn2⟩ : ∃ n, mx'.length = n := ⟨_, rfl⟩
          rw [hn1] at c1
          rw [hn2] at c2
          have HNN := Lib.hid (And.intro hn1 hn2)
          clear hn1 hn2
          go_wp2_with fail
          go_at_call 67
          obtain ⟨M, v1, eM, hB, hm, hg, hp⟩ := HS.out
          have hlM : M.length = ((1, ka, nK) :: (insPl I ++ losPl (Lk.take i))).length := by rw [← eM, List.length_map]
          simp only [List.length_append, List.length_cons, List.length_nil, insPl_len, losPl_len, List.length_take] at hlM
          have hBL := hB.lt
          refine (Bytes_c r (L ++ M) v1 (by rw [List.length_append]; have := HN.out; omega) _ _ _ hB).mono ?_
          rintro e w3 ⟨rfl, h', f', hP⟩
          have hP2 := hP
          obtain ⟨v9, hB9, m9, g9⟩ := hP2
          have HS3 := Lib.hid (BkS.step eM hm hg hp (lt_size kp3) (Q2 := [(0, ax, n1)]) rfl hP)
          replace kp3 := m9.at kp3 hp
          replace kg := m9.at kg (fun hb => by have := (hBL _ hb).1; omega)
          clear hP hB9 m9 g9 eM hB hm hg hp hlM hBL HS
          have HS := HS3
          clear HS3
          go_wp2_with fail
          go_at_call 67
          obtain ⟨M, v1, eM, hB, hm, hg, hp⟩ := HS.out
          have hlM : M.length = ((1, ka, nK) :: (insPl I ++ losPl (Lk.take i)) ++ [(0, ax, n1)]).length := by rw [← eM, List.length_map]
          simp only [List.length_append, List.length_cons, List.length_nil, insPl_len, losPl_len, List.length_take] at hlM
          have hBL := hB.lt
          refine (Bytes_c r (L ++ M) v1 (by rw [List.length_append]; have := HN.out; omega) _ _ _ hB).mono ?_
          rintro e w3 ⟨rfl, h', f', hP⟩
          have hP2 := hP
          obtain ⟨v9, hB9, m9, g9⟩ := hP2
          have HS3 := Lib.hid (BkS.step eM hm hg hp (lt_size kp3) (Q2 := [(0, dx, n2)]) rfl hP)
          replace kp3 := m9.at kp3 hp
          replace kg := m9.at kg (fun hb => by have := (hBL _ hb).1; omega)
          clear hP hB9 m9 g9 eM hB hm hg hp hlM hBL HS
          have HS := HS3
          clear HS3
          have HS4 : Hid (BkS r p3 L ((1, ka, nK) :: (insPl I ++ losPl (Lk.take (i + 1)))) v w w3) := Lib.hid (by
            rw [HTK.out, losPl_snoc]
            simp only [HNN.out.1, HNN.out.2]
            have := HS.out
            simpa only [List.cons_append, List.append_assoc] using this)
          clear HS
          go_wp2_with fail
          go_roundw
          case rel => exact ⟨i + 1, by omega, by go_num, HS4, kp3⟩
          case measure => simp [intOf]; omega
        · obtain rfl : nL = i := by omega
          have HQ : Hid (BkQ r L ((1, ka, nK) :: (insPl I ++ losPl Lk)) v w wr) := Lib.hid (by
            have := HS.out.q
            rw [List.take_of_length_le (by have := HN.out.2.2; omega)] at this
            exact this)
          clear HS
          go_wp2_with fail
          go_end0
          exact ⟨rfl, HQ.out⟩
set_option maxRecDepth 20000 in
set_option maxHeartbeats 6400000 in
theorem Tx_c (x : RdR) (r : Nat) (L : List Pg) (v : Value) (hL : L.length ≤ 800000000) (w : World) (h : BookV w r L v) (hf : MsgF r w x) (hc : x.sg.c = x.sg.l.length) : Calls Tryz.prog 11 #[.pointer (some ⟨r, 0, none⟩), .agg (txr x)] w fun e w' => e = .returned (.tuple #[]) ∧ BkQ r L (txPl x) v w w' := by
  have HF := Lib.hid (And.intro hf (And.intro hc hL))
  have HB0 := Lib.hid h
  have HR : Hid (∀ i, Bkv r v i → r ≤ i) := Lib.hid (fun i hi => (h.lt i hi).1)
  clear hf hc h hL
  go_enter Tryz.func11, Tryz.ntmps11
  go_upto_region 0 with fail
  refine wp_pass0 (C := fun _ _ _ => False) (κ := fun i => [3].getD i 0) [0] (by kernel_rfl) (by kernel_rfl) (fun _ _ d _ _ h => by cases d <;> first | exact h | exact absurd h (hP _ _ _)) ?_
  (refine TD.box (v := ?v2) (by simp only [zA, zB, zC]; rfl) rfl ?hw2 rfl rfl ?hx2 (fun p3 hp3 => ?hn2); (case hw2 => rfl); (case hx2 => (simp only [Act.eval, zD, zA, zB, zC, zE]; (try rfl))); (try simp only [Act.put, zF, zG, zH]))
  refine TD.nil (fun w1 hr => ?_)
  have kp3 := hr.box p3 _ (by first | exact Bx.set_same _ _ _ | (simp only [Bx.set_same]; rfl)); dsimp only [Value.cells] at kp3; obtain ⟨gp3, kp3⟩ := kp3
  have HS := Lib.hid (BkS.start HB0.out hr.mod gp3)
  clear hr
  go_wp2_with fail
  go_at_call 35
  obtain ⟨M, v1, eM, hB, hm, hg, hp⟩ := HS.out
  rw [HF.out.2.1]
  refine (Sigs_c r (L ++ M) v1 (by have hlM := congrArg List.length eM; rw [List.length_map] at hlM; rw [List.length_append]; have := HF.out.2.2; simp only [List.length_nil, List.length_cons] at hlM; omega) _ _ _ hB).mono ?_
  rintro e w2 ⟨rfl, h', f', hP⟩
  have hP2 := hP
  obtain ⟨v9, hB9, m9, g9⟩ := hP2
  have HS2 : Hid (BkS r p3 L [(2, x.sg.a, x.sg.l.length)] v w w2) := Lib.hid (BkS.step eM hm hg hp (lt_size kp3) (Q2 := [(2, x.sg.a, x.sg.l.length)]) rfl hP)
  replace kp3 := m9.at kp3 hp
  clear hP hB9 m9 g9 eM hB hm hg hp HS
  go_wp2_with fail
  go_at_call 36
  obtain ⟨M, v1, eM, hB, hm, hg, hp⟩ := HS2.out
  refine (Message_c x r (L ++ M) v1 (by have hlM := congrArg List.length eM; rw [List.length_map] at hlM; rw [List.length_append]; have := HF.out.2.2; simp only [List.length_nil, List.length_cons] at hlM; omega) _ hB (HF.out.1.mod hm HR.out)).mono ?_
  rintro e w3 ⟨rfl, N, eN, hP⟩
  have HQ : Hid (BkQ r L (txPl x) v w w3) := Lib.hid ⟨M ++ N, by rw [List.map_append, eM, eN]; rfl, bk_then hm hg hP⟩
  clear eM hB hm hg hp HS2 eN hP
  go_wp2_with fail
  go_end0
  exact ⟨rfl, HQ.out⟩
end Go.Proofs.YtofpnmoeimjnnaaGreat
namespace Go.Proofs.YtofpnmoeimjnnaaGreat
open Go.RowKit
open Go.ChangeMaps (setBlock)
set_option linter.unusedSimpArgs false
set_option linter.unusedVariables false
attribute [local go_sem] cell_blk frozen_blk one_int one_bool one_ptr one_slice one_map Value.cells
theorem ns_rd {α : Type} {f : α → Array Value} {n : Nat} {E : TypeId} {b m c : Nat} {w : World} {a : Option Addr} {l : List α} (h : NewS f n E b w (.slice a m c) l) : SlAt f n w a l := (WAtG.of h).sl
theorem so_rd {α : Type} {P : Program} {T E : TypeId} {f : α → Array Value} {n B : Nat} (hT : ElT P T E f n B) {w : World} {base m c : Nat} {a : Option Addr} {l : List α} (h : SlOwn f n E w base (.slice a m c) l) : SlAt f n w a l := by
  obtain ⟨a', c', e, hs, _⟩ := h.at hT
  injection e with e _ _
  rw [e]
  exact hs
theorem TxO.rd {b : Nat} {w : World} {x : RdR} (h : TxO b w x) (hB : TxB (txP x)) : TxRd w x := by
  obtain ⟨h1, h2, h3, h4, h5, h6, h7⟩ := h
  obtain ⟨b1, b2, ⟨b3, b4⟩, b5, b6⟩ := hB
  simp only [txP, msgP, List.length_map] at b1 b2 b3 b4 b5 b6
  refine ⟨⟨ns_rd h1, by omega⟩, ⟨ns_rd h2, by omega⟩, ⟨ns_rd h3, by omega, fun i hi => ?_⟩, ns_rd h5, by omega, fun i hi => ?_⟩
  · obtain ⟨y, hy, _, e2, e3, e4, e5⟩ := h4.1.left i hi
    have hb := b4 y hy
    rw [← e2] at e4
    rw [← e3] at e5
    exact ⟨⟨ns_rd e4, by rw [e2]; exact Nat.le_trans hb.1 (by decide)⟩, ⟨ns_rd e5, by rw [e3]; exact Nat.le_trans hb.2 (by decide)⟩⟩
  · obtain ⟨y, hy, _, e2, e3, e4, e5⟩ := h6.1.left i hi
    have hb := b6 y hy
    rw [← e2] at e4
    rw [← e3] at e5
    exact ⟨⟨ns_rd e4, by rw [e2]; exact Nat.le_trans hb.1 (by decide)⟩, ⟨ns_rd e5, by rw [e3]; exact Nat.le_trans hb.2 (by decide)⟩⟩
theorem TxLd.rd {b : Nat} {w : World} {x : RdR} (h : TxLd b w x) (hB : TxB (txP x)) : TxRd w x := by
  obtain ⟨h1, h2, ⟨h3, h4⟩, h5, h6⟩ := h
  obtain ⟨b1, b2, ⟨b3, b4⟩, b5, b6⟩ := hB
  simp only [txP, msgP, List.length_map] at b1 b2 b3 b4 b5 b6
  refine ⟨⟨so_rd sgT h1, by omega⟩, ⟨so_rd keysT h2, by omega⟩, ⟨so_rd instrT h3, by omega, fun i hi => ?_⟩, so_rd lookupT h5, by omega, fun i hi => ?_⟩
  · have hb := b4 (inP i) (List.mem_map_of_mem hi)
    exact ⟨⟨(h4 i hi).1.1, Nat.le_trans hb.1 (by decide)⟩, ⟨(h4 i hi).2.1, Nat.le_trans hb.2 (by decide)⟩⟩
  · have hb := b6 (loP i) (List.mem_map_of_mem hi)
    exact ⟨⟨(h6 i hi).1.1, Nat.le_trans hb.1 (by decide)⟩, ⟨(h6 i hi).2.1, Nat.le_trans hb.2 (by decide)⟩⟩
theorem decL_B : ∀ {n : Nat} {L : List UInt8} {xs : List TxP} {R : List UInt8}, decL n L = some (xs, R) → ∀ x ∈ xs, TxB x
  | 0, L, xs, R, h => by
    rw [decL] at h
    cases h
    exact fun x hx => by cases hx
  | n + 1, L, xs, R, h => by
    rw [decL] at h
    cases hp : pTx L with
    | error e => rw [hp] at h; cases h
    | ok y =>
      obtain ⟨x, k⟩ := y
      rw [hp] at h
      simp only at h
      split at h
      · cases hd : decL n (L.drop k) with
        | none => rw [hd] at h; cases h
        | some z =>
          rw [hd] at h
          simp only [Option.map_some, Option.some.injEq, Prod.mk.injEq] at h
          obtain ⟨rfl, _⟩ := h
          intro q hq
          rcases List.mem_cons.1 hq with rfl | hq
          · exact (PO.tx _ _ hp).2
          · exact decL_B (xs := z.1) (R := z.2) hd q hq
      · cases h
theorem decP_B {l : List UInt8} {xs : List TxP} (h : decP l = some xs) : ∀ x ∈ xs, TxB x := by
  unfold decP at h
  split at h
  · cases h
  · split at h
    · rename_i ys hd
      cases h
      exact decL_B hd
    · cases h
end Go.Proofs.YtofpnmoeimjnnaaGreat
namespace Go.Proofs.YtofpnmoeimjnnaaGreat
set_option linter.unusedVariables false
section
variable {P : Program} {ops : Array Oper} {Q : Exit → Act → World → Prop} {S : World → Prop} {C : FuncId → Array Value → Value → Prop} {w0 : World} {κ : Nat → Nat}
theorem TD.mks {i : Nat} {r : List Nat} {a : Act} {B : Bx} {o : Oper} {d : Tmp} {T E : TypeId} {n m : Nat} {x y : Operand} {X Y : Value} {z : Array Value} (ho : ops[i]? = some o) (hk : κ i = 3)
    (hw : Region.wanted o (yielded ops a.tmps) = true) (hd : o.dst = some d) (hop : o.op = .makeSlice T x y) (hx : a.eval x = X) (hy : a.eval y = Y)
    (hr : ∀ w, (Instr.makeSlice T X Y).run P w = .ok (.slice (some ⟨w.heap.size, 0, none⟩) n m) (w.alloc (.cells z E)))
    (h : ∀ p, B p = none → TD P ops Q S C w0 κ r (a.put o.dst (.slice (some ⟨p, 0, none⟩) n m)) (B.set p ⟨z, E, d⟩)) : TD P ops Q S C w0 κ (i :: r) a B :=
  .alloc (fun p => .slice (some ⟨p, 0, none⟩) n m) ho hk hw hd (fun w => by subst hx; subst hy; simp [execOp, hop, hr w]) h
end
end Go.Proofs.YtofpnmoeimjnnaaGreat
namespace Go.Proofs.YtofpnmoeimjnnaaGreat
open Go.RowKit
open Go.ChangeMaps (setBlock)
set_option linter.unusedSimpArgs false
set_option linter.unusedVariables false
attribute [local go_sem] cell_blk frozen_blk one_int one_bool one_ptr one_slice one_map Value.cells
def byC (l : List UInt8) : Array Value := (l.map (fun b => u8v b)).toArray
theorem byC_size (l : List UInt8) : (byC l).size = l.length := by simp [byC]
theorem byC_set (l : List UInt8) (i : Nat) (v : UInt8) : (byC l).setIfInBounds i (.int .u8 (v.toNat : Int)) = byC (l.set i v) := by simp [byC, List.map_set]
theorem byC_get {l : List UInt8} {i : Nat} {x : UInt8} (h : l[i]? = some x) : (byC l)[i]? = some (.int .u8 (x.toNat : Int)) := by simp [byC, h]
theorem mkByS (n : Nat) (hn : n ≤ 10000000) (w : World) : (Instr.makeSlice 22 (.int .i64 (n : Int)) (.int .i64 (n : Int))).run Tryz.prog w = .ok (.slice (some ⟨w.heap.size, 0, none⟩) n n) (w.alloc (.cells (byC (List.replicate n 0)) 5)) := by
  obtain ⟨i0, hi, hz0, hz1, hz2⟩ := info_parts (show (Tryz.prog.info? 5).map (fun i => (i.zero, i.size, i.bytes)) = some (some (.int .u8 0), 1, 1) by kernel_rfl)
  have := run_make (P := Tryz.prog) w 22 5 i0 _ Tryz.underlying22 hi hz0 .i64 .i64 (n : Int) (n : Int) (by omega) (by omega) (by rw [hz2]; omega) (by omega)
  rw [hz1, Nat.mul_one] at this
  have hc : madeCells #[Value.int .u8 0] n = byC (List.replicate n 0) := by
    apply Array.toList_inj.1
    rw [toList_madeCells_one]
    simp [byC]
  simpa [Value.cells, hc] using this
theorem byC_at {w : World} {q : Nat} {l m : List UInt8} {U : TypeId} {fr : Nat × Nat} (h : w.heap[q]? = some (.cells (byC (l ++ m)) U fr)) : SlAt uc 1 w (some ⟨q, 0, none⟩) l := by
  refine .inr ⟨q, 0, _, U, fr, rfl, h, fun i x hx => ?_⟩
  have hi := (List.getElem?_eq_some_iff.1 hx).1
  have h1 : (l ++ m)[i]? = some x := by rw [List.getElem?_append_left hi, hx]
  have h2 := byC_get h1
  rw [Nat.mul_one, Nat.zero_add, byC_size, List.length_append]
  refine ⟨?_, by omega⟩
  apply Array.ext_getElem?
  intro j
  rw [Array.getElem?_extract]
  cases j with
  | zero =>
    rw [if_pos (by rw [byC_size, List.length_append]; omega), Nat.add_zero, h2]
    rfl
  | succ j =>
    rw [if_neg (by omega)]
    rfl
set_option maxRecDepth 20000 in
set_option maxHeartbeats 3200000 in
theorem twinB_c (a : Option Addr) (l : List UInt8) (c : Nat) (mk : UInt8) (w : World) (hl : SlAt uc 1 w a l) (hb : l.length ≤ 1000000) : Calls Tryz.prog 26 #[.slice a l.length c, u8v mk] w fun e w' => ∃ q, e = .returned (.slice (some ⟨q, 0, none⟩) l.length (l.length + 3)) ∧ w.heap.size ≤ q ∧ w'.heap[q]? = some (.cells (byC (l ++ [mk, mk, mk])) 5 (0, 0)) ∧ Mod (fun _ => False) w w' := by
  have HL := Lib.hid hl
  obtain ⟨n, hn⟩ : ∃ n, l.length = n := ⟨_, rfl⟩
  have HN := Lib.hid hn
  rw [hn] at hb ⊢
  have hmk := mkByS (n + 3) (by omega)
  obtain ⟨n3, hn3⟩ : ∃ n3, n + 3 = n3 := ⟨_, rfl⟩
  rw [hn3] at hmk ⊢
  have hnw : IntKind.i64.wrap ((n : Int) + 3) = (n3 : Int) := by rw [IntKind.wrap_i64]; omega
  clear hl hn
  go_enter Tryz.func26, Tryz.ntmps26
  go_upto_region 1 with fail
  refine wp_pass0 (C := fun _ _ _ => False) (κ := fun i => [0, 0, 0, 3, 0].getD i 0) [0, 1, 2, 3, 4] (by kernel_rfl) (by kernel_rfl) (fun _ _ d _ _ h => by cases d <;> first | exact h | exact absurd h (hP _ _ _)) ?_
  (refine TD.val0 (v := ?v1) (by simp only [zA, zB, zC]; rfl) rfl ?hw1 (fun w1 => ?hy1) ?hn1; (case hw1 => rfl); (case hy1 => (go_simp; (try with_reducible rfl))); (try simp only [Act.put, zF, zG, zH]))
  (refine TD.val0 (v := ?v2) (by simp only [zA, zB, zC]; rfl) rfl ?hw2 (fun w1 => ?hy2) ?hn2; (case hw2 => rfl); (case hy2 => (go_simp; (try with_reducible rfl))); (try simp only [Act.put, zF, zG, zH]))
  (refine TD.val0 (v := ?v3) (by simp only [zA, zB, zC]; rfl) rfl ?hw3 (fun w1 => ?hy3) ?hn3; (case hw3 => rfl); (case hy3 => (go_simp; (try with_reducible rfl))); (try simp only [Act.put, zF, zG, zH]))
  (refine TD.mks (by simp only [zA, zB, zC]; rfl) rfl ?hw4 rfl rfl ?hx4 ?hz4 hmk (fun p11 hp11 => ?hn4); (case hw4 => rfl); (case hx4 => (simp only [Act.eval, zD, zA, zB, zC, zE]; (try rfl))); (case hz4 => (simp only [Act.eval, zD, zA, zB, zC, zE]; (try rfl))); (try simp only [Act.put, zF, zG, zH]))
  (refine TD.val0 (v := ?v5) (by simp only [zA, zB, zC]; rfl) rfl ?hw5 (fun w1 => ?hy5) ?hn5; (case hw5 => rfl); (case hy5 => (go_simp; (try with_reducible rfl))); (try simp only [Act.put, zF, zG, zH]))
  refine TD.nil (fun w1 hr => ?_)
  have kp11 := hr.box p11 _ (by first | exact Bx.set_same _ _ _ | (simp only [Bx.set_same]; rfl)); dsimp only [Value.cells] at kp11; obtain ⟨gp11, kp11⟩ := kp11
  have HM1 := Lib.hid hr.mod
  have hq : w.heap.size ≤ p11 := gp11
  clear hr hmk
  go_wp2_with fail
  go_loopw [6] (fun s6 ws => ∃ (i : Nat) (L : List UInt8), i ≤ n ∧ s6 = .int .i64 (i : Int) ∧ Hid (L = l.take i ++ List.replicate (n3 - i) 0) ∧ ws.heap[p11]? = some (.cells (byC L) 5 (0, 0)) ∧ Hid (Mod (fun _ => False) w ws)) (fun s6 _ => n - (intOf s6).toNat)
  case atStart => exact ⟨0, List.replicate n3 0, by omega, rfl, Lib.hid (by simp), kp11, HM1⟩
  case round =>
    obtain ⟨i, L, hi, rfl, HLL, kp11, HM⟩ := hrel
    by_cases hlt : i < n
    · have hd := decide_eq_true hlt
      obtain ⟨x, hx⟩ : ∃ x, l[i]? = some x := ⟨_, List.getElem?_eq_getElem (by rw [HN.out]; exact hlt)⟩
      obtain ⟨b, o, C, U, fr, rfl, kb0, hc⟩ := u8_at HL.out hx
      have kb := HM.out.at0 kb0
      have hbp : b ≠ p11 := by have := lt_size kb0; omega
      clear kb0
      have hsz : (byC L).size = n3 := by
        rw [byC_size, HLL.out, List.length_append, List.length_take, List.length_replicate, HN.out]
        omega
      have HXX := Lib.hid hx
      have hi3 : i < n3 := by omega
      clear hx
      go_upto_region 5 with fail
      have Lkp11 := lt_size kp11
      have Lkb := lt_size kb
      refine wp_pass0 (C := fun _ _ _ => False) (κ := fun i => [0, 0, 0, 0, 0, 1, 0, 5].getD i 0) [0, 1, 2, 3, 4, 5, 6, 7] (by kernel_rfl) (by kernel_rfl) (fun _ _ d _ _ h => by cases d <;> first | exact h | exact absurd h (hP _ _ _)) ?_
      (refine TD.val0 (v := ?v6) (by simp only [zA, zB, zC]; rfl) rfl ?hw6 (fun w1 => ?hy6) ?hn6; (case hw6 => rfl); (case hy6 => (go_simp; (try with_reducible rfl))); (try simp only [Act.put, zF, zG, zH]))
      (refine TD.val0 (v := ?v7) (by simp only [zA, zB, zC]; rfl) rfl ?hw7 (fun w1 => ?hy7) ?hn7; (case hw7 => rfl); (case hy7 => (go_simp; (try with_reducible rfl))); (try simp only [Act.put, zF, zG, zH]))
      (refine TD.val0 (v := ?v8) (by simp only [zA, zB, zC]; rfl) rfl ?hw8 (fun w1 => ?hy8) ?hn8; (case hw8 => rfl); (case hy8 => (go_simp; (try with_reducible rfl))); (try simp only [Act.put, zF, zG, zH]))
      (refine TD.val0 (v := ?v9) (by simp only [zA, zB, zC]; rfl) rfl ?hw9 (fun w1 => ?hy9) ?hn9; (case hw9 => rfl); (case hy9 => (go_simp; (try with_reducible rfl))); (try simp only [Act.put, zF, zG, zH]))
      (refine TD.val0 (v := ?v10) (by simp only [zA, zB, zC]; rfl) rfl ?hw10 (fun w1 => ?hy10) ?hn10; (case hw10 => rfl); (case hy10 => (go_simp; (try with_reducible rfl))); (try simp only [Act.put, zF, zG, zH]))
      (refine TD.load (v := ?v11) (p := ?p11) (Mod.refl _ _) (by simp only [zA, zB, zC]; rfl) rfl ?hw11 rfl ?hx11 (fun wq hSq => ?hy11) ?hn11; (case hw11 => rfl); (case hx11 => (simp only [Act.eval, zD, zA, zB, zC, zE]; (try rfl))); (case hy11 => (have kp11q := hSq.at kp11 (fun h => h); have kbq := hSq.at kb (fun h => h); go_simp; (try with_reducible rfl))); (try simp only [Act.put, zF, zG, zH]))
      (refine TD.val0 (v := ?v12) (by simp only [zA, zB, zC]; rfl) rfl ?hw12 (fun w1 => ?hy12) ?hn12; (case hw12 => rfl); (case hy12 => (go_simp; (try with_reducible rfl))); (try simp only [Act.put, zF, zG, zH]))
      refine TD.eff (by simp only [zA, zB, zC]; rfl) rfl (fun wE hr => ?_)
      replace kp11 := hr.mod.at0 kp11
      replace kb := hr.mod.at0 kb
      have mE := hr.mod
      (refine eff_store (X := ?X13) (Y := ?Y13) (w' := ?w13) (by simp only [zA, zB, zC]; rfl) ?hw13 rfl ?hx13 ?hz13 ?hy13 ?hn13; (case hw13 => rfl); (case hx13 => (simp only [Act.eval, zD, zA, zB, zC, zE]; (try rfl))); (case hz13 => (simp only [Act.eval, zD, zA, zB, zC, zE]; (try rfl))); (case hy13 => (go_simp; (try with_reducible rfl))))
      (first | refine TE.nil_set kp11 (fun w5 kp11 mS => ?_) | refine TE.nil_setCell kp11 (fun w5 kp11 mS => ?_))
      replace kb := mS.at_ne kb (by omega)
      replace kp11 : w5.heap[p11]? = some (.cells (byC (L.set i x)) 5 (0, 0)) := by rw [kp11, byC_set]
      have HM5 := Lib.hid ((HM.out.then0 mE).then mS (fun j hj e => by omega))
      have HL5 : Hid (L.set i x = l.take (i + 1) ++ List.replicate (n3 - (i + 1)) 0) := Lib.hid (by
        have hx := HXX.out
        have h1 : (l.take i).length = i := by rw [List.length_take, HN.out]; omega
        rw [HLL.out, List.set_append, h1, if_neg (by omega), Nat.sub_self, List.take_add_one, hx, show n3 - i = (n3 - (i + 1)) + 1 by omega, List.replicate_succ]
        simp)
      clear hr mE mS hc hsz kb
      go_wp2_with fail
      go_roundw
      case rel => exact ⟨i + 1, L.set i x, by omega, by go_num, HL5, kp11, HM5⟩
      case measure => simp [intOf]; omega
    · have hd := decide_eq_false hlt
      obtain rfl : n = i := by omega
      have HL0 : Hid (L = l ++ List.replicate 3 0) := Lib.hid (by rw [HLL.out, List.take_of_length_le (by rw [HN.out]; omega), show n3 - n = 3 by omega])
      clear HLL hi hlt
      go_wp2_with fail
      go_loopw [7] (fun s7 ws => ∃ (i : Nat) (L : List UInt8), i ≤ 3 ∧ s7 = .int .i64 (i : Int) ∧ Hid (L = l ++ (List.replicate i mk ++ List.replicate (3 - i) 0)) ∧ ws.heap[p11]? = some (.cells (byC L) 5 (0, 0)) ∧ Hid (Mod (fun _ => False) w ws)) (fun s7 _ => 3 - (intOf s7).toNat)
      case atStart => exact ⟨0, L, by omega, rfl, HL0, kp11, HM⟩
      case round =>
        obtain ⟨i, L, hi, rfl, HLL, kp11, HM⟩ := hrel
        by_cases hlt : i < 3
        · have hd := decide_eq_true hlt
          have hd1 : decide ((i : Int) < 3) = true := decide_eq_true (by omega)
          obtain ⟨k, hk⟩ : ∃ k, n + i = k := ⟨_, rfl⟩
          have hkw : IntKind.i64.wrap ((n : Int) + (i : Int)) = (k : Int) := by rw [IntKind.wrap_i64]; omega
          have hk3 : k < n3 := by omega
          have hsz : (byC L).size = n3 := by
            rw [byC_size, HLL.out, List.length_append, List.length_append, List.length_replicate, List.length_replicate, HN.out]
            omega
          go_upto_region 9 with fail
          have Lkp11 := lt_size kp11
          refine wp_pass0 (C := fun _ _ _ => False) (κ := fun i => [0, 0, 0, 0, 0, 0, 0, 5].getD i 0) [0, 1, 2, 3, 4, 5, 6, 7] (by kernel_rfl) (by kernel_rfl) (fun _ _ d _ _ h => by cases d <;> first | exact h | exact absurd h (hP _ _ _)) ?_
          (refine TD.val0 (v := ?v14) (by simp only [zA, zB, zC]; rfl) rfl ?hw14 (fun w1 => ?hy14) ?hn14; (case hw14 => rfl); (case hy14 => (go_simp; (try with_reducible rfl))); (try simp only [Act.put, zF, zG, zH]))
          (refine TD.val0 (v := ?v15) (by simp only [zA, zB, zC]; rfl) rfl ?hw15 (fun w1 => ?hy15) ?hn15; (case hw15 => rfl); (case hy15 => (go_simp; (try with_reducible rfl))); (try simp only [Act.put, zF, zG, zH]))
          (refine TD.val0 (v := ?v16) (by simp only [zA, zB, zC]; rfl) rfl ?hw16 (fun w1 => ?hy16) ?hn16; (case hw16 => rfl); (case hy16 => (go_simp; (try with_reducible rfl))); (try simp only [Act.put, zF, zG, zH]))
          (refine TD.val0 (v := ?v17) (by simp only [zA, zB, zC]; rfl) rfl ?hw17 (fun w1 => ?hy17) ?hn17; (case hw17 => rfl); (case hy17 => (go_simp; (try with_reducible rfl))); (try simp only [Act.put, zF, zG, zH]))
          (refine TD.val0 (v := ?v18) (by simp only [zA, zB, zC]; rfl) rfl ?hw18 (fun w1 => ?hy18) ?hn18; (case hw18 => rfl); (case hy18 => (go_simp; (try with_reducible rfl))); (try simp only [Act.put, zF, zG, zH]))
          (refine TD.val0 (v := ?v19) (by simp only [zA, zB, zC]; rfl) rfl ?hw19 (fun w1 => ?hy19) ?hn19; (case hw19 => rfl); (case hy19 => (go_simp; (try with_reducible rfl))); (try simp only [Act.put, zF, zG, zH]))
          (refine TD.val0 (v := ?v20) (by simp only [zA, zB, zC]; rfl) rfl ?hw20 (fun w1 => ?hy20) ?hn20; (case hw20 => rfl); (case hy20 => (go_simp; (try with_reducible rfl))); (try simp only [Act.put, zF, zG, zH]))
          refine TD.eff (by simp only [zA, zB, zC]; rfl) rfl (fun wE hr => ?_)
          replace kp11 := hr.mod.at0 kp11
          have mE := hr.mod
          (refine eff_store (X := ?X21) (Y := ?Y21) (w' := ?w21) (by simp only [zA, zB, zC]; rfl) ?hw21 rfl ?hx21 ?hz21 ?hy21 ?hn21; (case hw21 => rfl); (case hx21 => (simp only [Act.eval, zD, zA, zB, zC, zE]; (try rfl))); (case hz21 => (simp only [Act.eval, zD, zA, zB, zC, zE]; (try rfl))); (case hy21 => (go_simp; (try with_reducible rfl))))
          (first | refine TE.nil_set kp11 (fun w5 kp11 mS => ?_) | refine TE.nil_setCell kp11 (fun w5 kp11 mS => ?_))
          replace kp11 : w5.heap[p11]? = some (.cells (byC (L.set k mk)) 5 (0, 0)) := by rw [kp11, byC_set]
          have HM5 := Lib.hid ((HM.out.then0 mE).then mS (fun j hj e => by omega))
          have HL5 : Hid (L.set k mk = l ++ (List.replicate (i + 1) mk ++ List.replicate (3 - (i + 1)) 0)) := Lib.hid (by
            have h1 : (List.replicate i mk).length = i := List.length_replicate
            rw [HLL.out, List.set_append, HN.out, if_neg (by omega), show k - n = i by omega, List.set_append, h1, if_neg (by omega), Nat.sub_self, show 3 - i = (3 - (i + 1)) + 1 by omega, List.replicate_succ, List.replicate_succ']
            simp)
          clear hr mE mS hsz
          go_wp2_with fail
          go_roundw
          case rel => exact ⟨i + 1, L.set k mk, by omega, by go_num, HL5, kp11, HM5⟩
          case measure => simp [intOf]; omega
        · have hd := decide_eq_false hlt
          have hd1 : decide ((i : Int) < 3) = false := decide_eq_false (by omega)
          obtain rfl : 3 = i := by omega
          have hsl := fun w2 => sl_head (P := Tryz.prog) bytesT (b := p11) (o := 0) (nn := n3) (c := n3) (m := n) (by omega) (by omega) w2
          go_upto_region 10 with fail
          have Lkp11 := lt_size kp11
          refine wp_pass0 (C := fun _ _ _ => False) (κ := fun i => [0, 0, 0, 0, 0].getD i 0) [0, 1, 2, 3, 4] (by kernel_rfl) (by kernel_rfl) (fun _ _ d _ _ h => by cases d <;> first | exact h | exact absurd h (hP _ _ _)) ?_
          (refine TD.val0 (v := ?v22) (by simp only [zA, zB, zC]; rfl) rfl ?hw22 (fun w1 => ?hy22) ?hn22; (case hw22 => rfl); (case hy22 => (go_simp; (try with_reducible rfl))); (try simp only [Act.put, zF, zG, zH]))
          (refine TD.val0 (v := ?v23) (by simp only [zA, zB, zC]; rfl) rfl ?hw23 (fun w1 => ?hy23) ?hn23; (case hw23 => rfl); (case hy23 => (go_simp; (try with_reducible rfl))); (try simp only [Act.put, zF, zG, zH]))
          (refine TD.val0 (v := ?v24) (by simp only [zA, zB, zC]; rfl) rfl ?hw24 (fun w1 => ?hy24) ?hn24; (case hw24 => rfl); (case hy24 => (go_simp; (try with_reducible rfl))); (try simp only [Act.put, zF, zG, zH]))
          (refine TD.slice (by simp only [zA, zB, zC]; rfl) rfl ?hw25 rfl ?hs25 ?hl25 ?hh25 ?hm25 hsl ?hn25; (case hw25 => rfl); (case hs25 => (simp only [Act.eval, zD, zA, zB, zC, zE]; (try rfl))); (case hl25 => first | rfl | (simp only [Option.map_some, Act.eval, zD, zA, zB, zC, zE]; (try rfl))); (case hh25 => first | rfl | (simp only [Option.map_some, Act.eval, zD, zA, zB, zC, zE]; (try rfl))); (case hm25 => rfl); (try simp only [Act.put, zF, zG, zH]))
          (refine TD.val0 (v := ?v26) (by simp only [zA, zB, zC]; rfl) rfl ?hw26 (fun w1 => ?hy26) ?hn26; (case hw26 => rfl); (case hy26 => (go_simp; (try with_reducible rfl))); (try simp only [Act.put, zF, zG, zH]))
          refine TD.nil (fun w9 hr => ?_)
          replace kp11 := hr.mod.at kp11 (fun h => h)
          have HM9 := Lib.hid (HM.out.then0 hr.mod)
          have HLX : Hid (w9.heap[p11]? = some (.cells (byC (l ++ [mk, mk, mk])) 5 (0, 0))) := Lib.hid (by rw [kp11, HLL.out]; rfl)
          clear hr hsl kp11
          go_wp2_with fail
          go_ret
          exact ⟨p11, rfl, hq, HLX.out, HM9.out⟩
end Go.Proofs.YtofpnmoeimjnnaaGreat
namespace Go.Proofs.YtofpnmoeimjnnaaGreat
open Go.RowKit
open Go.ChangeMaps (setBlock)
set_option linter.unusedSimpArgs false
set_option linter.unusedVariables false
attribute [local go_sem] cell_blk frozen_blk one_int one_bool one_ptr one_slice one_map Value.cells
set_option maxRecDepth 20000 in
set_option maxHeartbeats 3200000 in
theorem leftB_c (a : Option Addr) (l : List UInt8) (c q : Nat) (mk : UInt8) (w : World) (hl : SlAt uc 1 w a l) (hq : w.heap[q]? = some (.cells (byC (l ++ [mk, mk, mk])) 5 (0, 0))) (hb : l.length ≤ 1000000) : Calls Tryz.prog 32 #[.slice (some ⟨q, 0, none⟩) l.length (l.length + 3), .slice a l.length c, u8v mk] w fun e w' => e = .returned (.bool true) ∧ Mod (fun _ => False) w w' := by
  have HS := Lib.hid (sameB_c (some ⟨q, 0, none⟩) a l l (l.length + 3) c w (byC_at hq) hl hb)
  obtain ⟨C, hC⟩ : ∃ C, byC (l ++ [mk, mk, mk]) = C := ⟨_, rfl⟩
  obtain ⟨n, hn⟩ : ∃ n, l.length = n := ⟨_, rfl⟩
  have hget : ∀ i, i < 3 → C[n + i]? = some (.int .u8 (mk.toNat : Int)) := fun i hi => by
    rw [← hC, ← hn]
    refine byC_get ?_
    rw [List.getElem?_append_right (by omega), Nat.add_sub_cancel_left]
    match i, hi with
    | 0, _ => rfl
    | 1, _ => rfl
    | 2, _ => rfl
  have HG := Lib.hid hget
  rw [hC] at hq
  have hs := HS.out
  rw [hn] at hs hb ⊢
  have HS2 := Lib.hid hs
  have hmm : ((mk.toNat : Int) != (mk.toNat : Int)) = false := by simp
  obtain ⟨n3, hn3⟩ : ∃ n3, n + 3 = n3 := ⟨_, rfl⟩
  rw [hn3] at hs ⊢
  have HS3 := Lib.hid hs
  have hnw : IntKind.i64.wrap ((n : Int) + 3) = (n3 : Int) := by rw [IntKind.wrap_i64]; omega
  clear hl hn hC hget HS hs HS2
  go_enter Tryz.func32, Tryz.ntmps32
  go_wp2_with fail
  go_at_call 63
  refine HS3.out.mono ?_
  rintro e w2 ⟨rfl, m2⟩
  replace hq := m2.at0 hq
  have HM2 := Lib.hid m2
  have hsl := fun w2 => sl_head (P := Tryz.prog) bytesT (b := q) (o := 0) (nn := n) (c := n3) (m := n3) (by omega) (by omega) w2
  clear m2 HS3
  go_upto_region 3 with fail
  have Lhq := lt_size hq
  refine wp_pass0 (C := fun _ _ _ => False) (κ := fun i => [0, 0, 0, 0, 0, 0].getD i 0) [0, 1, 2, 3, 4, 5] (by kernel_rfl) (by kernel_rfl) (fun _ _ d _ _ h => by cases d <;> first | exact h | exact absurd h (hP _ _ _)) ?_
  (refine TD.val0 (v := ?v1) (by simp only [zA, zB, zC]; rfl) rfl ?hw1 (fun w1 => ?hy1) ?hn1; (case hw1 => rfl); (case hy1 => (go_simp; (try with_reducible rfl))); (try simp only [Act.put, zF, zG, zH]))
  (refine TD.val0 (v := ?v2) (by simp only [zA, zB, zC]; rfl) rfl ?hw2 (fun w1 => ?hy2) ?hn2; (case hw2 => rfl); (case hy2 => (go_simp; (try with_reducible rfl))); (try simp only [Act.put, zF, zG, zH]))
  (refine TD.val0 (v := ?v3) (by simp only [zA, zB, zC]; rfl) rfl ?hw3 (fun w1 => ?hy3) ?hn3; (case hw3 => rfl); (case hy3 => (go_simp; (try with_reducible rfl))); (try simp only [Act.put, zF, zG, zH]))
  (refine TD.val0 (v := ?v4) (by simp only [zA, zB, zC]; rfl) rfl ?hw4 (fun w1 => ?hy4) ?hn4; (case hw4 => rfl); (case hy4 => (go_simp; (try with_reducible rfl))); (try simp only [Act.put, zF, zG, zH]))
  (refine TD.slice (by simp only [zA, zB, zC]; rfl) rfl ?hw5 rfl ?hs5 ?hl5 ?hh5 ?hm5 hsl ?hn5; (case hw5 => rfl); (case hs5 => (simp only [Act.eval, zD, zA, zB, zC, zE]; (try rfl))); (case hl5 => first | rfl | (simp only [Option.map_some, Act.eval, zD, zA, zB, zC, zE]; (try rfl))); (case hh5 => first | rfl | (simp only [Option.map_some, Act.eval, zD, zA, zB, zC, zE]; (try rfl))); (case hm5 => rfl); (try simp only [Act.put, zF, zG, zH]))
  (refine TD.val0 (v := ?v6) (by simp only [zA, zB, zC]; rfl) rfl ?hw6 (fun w1 => ?hy6) ?hn6; (case hw6 => rfl); (case hy6 => (go_simp; (try with_reducible rfl))); (try simp only [Act.put, zF, zG, zH]))
  refine TD.nil (fun w3 hr => ?_)
  replace hq := hr.mod.at hq (fun h => h)
  have HM3 := Lib.hid (HM2.out.then0 hr.mod)
  clear hr hsl
  go_wp2_with fail
  go_loopw [8] (fun s8 ws => ∃ i : Nat, i ≤ 3 ∧ s8 = .int .i64 (i : Int) ∧ ws.heap[q]? = some (.cells C 5 (0, 0)) ∧ Hid (Mod (fun _ => False) w ws)) (fun s8 _ => 3 - (intOf s8).toNat)
  case atStart => exact ⟨0, by omega, rfl, hq, HM3⟩
  case round =>
    obtain ⟨i, hi, rfl, hq, HM⟩ := hrel
    by_cases hlt : i < 3
    · have hd := decide_eq_true hlt
      have hd1 : decide ((i : Int) < 3) = true := decide_eq_true (by omega)
      have hg := HG.out i hlt
      obtain ⟨k, hk⟩ : ∃ k, n + i = k := ⟨_, rfl⟩
      rw [hk] at hg
      have hkw : IntKind.i64.wrap ((n : Int) + (i : Int)) = (k : Int) := by rw [IntKind.wrap_i64]; omega
      have hk3 : k < n3 := by omega
      go_wp2_with fail
      go_roundw
      case rel => exact ⟨i + 1, by omega, by go_num, hq, HM⟩
      case measure => simp [intOf]; omega
    · have hd := decide_eq_false hlt
      have hd1 : decide ((i : Int) < 3) = false := decide_eq_false (by omega)
      go_wp2_with fail
      go_ret
      exact ⟨rfl, HM.out⟩
theorem TwinBytes_c (a : Option Addr) (l : List UInt8) (c : Nat) (w : World) (hl : SlAt uc 1 w a l) (hb : l.length ≤ 1000000) : Calls Tryz.prog 6 #[.slice a l.length c] w fun e w' => ∃ q, e = .returned (.slice (some ⟨q, 0, none⟩) l.length (l.length + 3)) ∧ w.heap.size ≤ q ∧ w'.heap[q]? = some (.cells (byC (l ++ [165, 165, 165])) 5 (0, 0)) ∧ Mod (fun _ => False) w w' := by
  have HC := Lib.hid (twinB_c a l c 165 w hl hb)
  clear hl hb
  go_enter Tryz.func6, Tryz.ntmps6
  go_wp2_with fail
  go_at_call 26
  refine HC.out.mono ?_
  rintro e w2 ⟨q, rfl, h1, h2, h3⟩
  have HF := Lib.hid (And.intro h1 (And.intro h2 h3))
  clear h1 h2 h3
  go_wp2_with fail
  go_ret
  exact ⟨q, rfl, HF.out⟩
theorem LeftBytes_c (a : Option Addr) (l : List UInt8) (c q : Nat) (w : World) (hl : SlAt uc 1 w a l) (hq : w.heap[q]? = some (.cells (byC (l ++ [165, 165, 165])) 5 (0, 0))) (hb : l.length ≤ 1000000) : Calls Tryz.prog 9 #[.slice (some ⟨q, 0, none⟩) l.length (l.length + 3), .slice a l.length c] w fun e w' => e = .returned (.bool true) ∧ Mod (fun _ => False) w w' := by
  have HC := Lib.hid (leftB_c a l c q 165 w hl hq hb)
  clear hl hb hq
  go_enter Tryz.func9, Tryz.ntmps9
  go_wp2_with fail
  go_at_call 32
  refine HC.out.mono ?_
  rintro e w2 ⟨rfl, h3⟩
  go_wp2_with fail
  go_ret
  exact ⟨rfl, h3⟩
end Go.Proofs.YtofpnmoeimjnnaaGreat
namespace Go.Proofs.YtofpnmoeimjnnaaGreat
set_option linter.unusedVariables false
structure QIs (R : List Key) (next : Nat) (L : List Key) : Prop where
  size : R.length = 150
  nlt : next < 150
  len : L.length ≤ 150
  at' : ∀ i, i < L.length → R[(next + 299 - i) % 150]? = L[i]?
theorem QIs.zero (R : List Key) (h : R.length = 150) : QIs R 0 [] := ⟨h, by omega, by simp, fun i hi => by simp at hi⟩
theorem QIs.push {R : List Key} {next : Nat} {L : List Key} (h : QIs R next L) (k : Key) : QIs (R.set next k) ((next + 1) % 150) ((k :: L).take 150) where
  size := by rw [List.length_set, h.size]
  nlt := Nat.mod_lt _ (by omega)
  len := by rw [List.length_take]; omega
  at' i hi := by
    have hn := h.nlt
    have hs := h.size
    rw [List.length_take, List.length_cons] at hi
    rw [List.getElem?_take_of_lt (by omega)]
    cases i with
    | zero =>
      have e : ((next + 1) % 150 + 299 - 0) % 150 = next := by omega
      rw [e, List.getElem?_set_self (by omega)]
      rfl
    | succ i =>
      have e : ((next + 1) % 150 + 299 - (i + 1)) % 150 = (next + 299 - i) % 150 := by omega
      rw [e, List.getElem?_set_ne (by omega), h.at' i (by omega), List.getElem?_cons_succ]
end Go.Proofs.YtofpnmoeimjnnaaGreat
namespace Go.Proofs.YtofpnmoeimjnnaaGreat
set_option linter.unusedVariables false
structure Lim where
  b : UInt64
  a : UInt64
  s : UInt64
end Go.Proofs.YtofpnmoeimjnnaaGreat
namespace Go.Proofs.YtofpnmoeimjnnaaGreat
open Go.RowKit
open Go.ChangeMaps (setBlock)
set_option linter.unusedSimpArgs false
set_option linter.unusedVariables false
def zHash : Array Value := Array.replicate 32 (.int .u8 0)
theorem zHash_size : zHash.size = 32 := by simp [zHash]
def zLim : Array Value := #[.int .u64 0, .int .u64 0, .int .u64 0]
theorem zLim_size : zLim.size = 3 := rfl
theorem ldHash (w : World) (b o : Nat) : (Instr.loadAt 39 (.pointer (some ⟨b, o, none⟩))).run Tryz.prog w =
      match w.heap[b]? with
      | some (.cells cs _ _) => if o + 32 ≤ cs.size then .ok (.agg (cs.extract o (o + 32))) w else farL Tryz.prog w 39 b o
      | _ => farL Tryz.prog w 39 b o := load_rule (d := _) Tryz.underlying39 rfl (by kernel_rfl) w b o
theorem stHash (w : World) (b o : Nat) (xs : Array Value) : (Instr.storeAt 39 (.pointer (some ⟨b, o, none⟩)) (.agg xs)).run Tryz.prog w =
      match w.heap[b]? with
      | some (.cells cs U (0, 0)) =>
        if o + 32 ≤ cs.size ∧ xs.size = 32 ∧ xs.all (·.oneCell') = true then .ok () (setBlock w b (.cells (if o = 0 ∧ 32 = cs.size then xs else wr cs o xs.toList) U (0, 0))) else farS Tryz.prog w 39 b o (.agg xs)
      | _ => farS Tryz.prog w 39 b o (.agg xs) := store_rule (by kernel_rfl) w b o xs
theorem wlHash (dst : Option Tmp) (x : Operand) (ty : TypeId) (pos : String) (after : Array Edge) (g : Option (Nat × Bool)) (a : Act) (w : World) (K : Act → World → Prop) (Q : Exit → Act → World → Prop) :
    Oper.wp Tryz.prog { dst := dst, op := .load 39 x, type := ty, pos := pos, after := after, guard := g } a w K Q =
      (match a.eval x with
      | .pointer (some ⟨b, o, none⟩) =>
        (match w.heap[b]? with
        | some (.cells cs _ _) => if o + 32 ≤ cs.size then K (a.put dst (.agg (cs.extract o (o + 32)))) w else farW Tryz.prog { dst := dst, op := .load 39 x, type := ty, pos := pos, after := after, guard := g } a w K Q
        | _ => farW Tryz.prog { dst := dst, op := .load 39 x, type := ty, pos := pos, after := after, guard := g } a w K Q)
      | _ => farW Tryz.prog { dst := dst, op := .load 39 x, type := ty, pos := pos, after := after, guard := g } a w K Q) := wp_load_rule (d := _) Tryz.underlying39 rfl (by kernel_rfl) dst x ty pos after g a w K Q
theorem ldSig (w : World) (b o : Nat) : (Instr.loadAt 66 (.pointer (some ⟨b, o, none⟩))).run Tryz.prog w =
      match w.heap[b]? with
      | some (.cells cs _ _) => if o + 64 ≤ cs.size then .ok (.agg (cs.extract o (o + 64))) w else farL Tryz.prog w 66 b o
      | _ => farL Tryz.prog w 66 b o := load_rule (d := _) Tryz.underlying66 rfl (by kernel_rfl) w b o
theorem stSig (w : World) (b o : Nat) (xs : Array Value) : (Instr.storeAt 66 (.pointer (some ⟨b, o, none⟩)) (.agg xs)).run Tryz.prog w =
      match w.heap[b]? with
      | some (.cells cs U (0, 0)) =>
        if o + 64 ≤ cs.size ∧ xs.size = 64 ∧ xs.all (·.oneCell') = true then .ok () (setBlock w b (.cells (if o = 0 ∧ 64 = cs.size then xs else wr cs o xs.toList) U (0, 0))) else farS Tryz.prog w 66 b o (.agg xs)
      | _ => farS Tryz.prog w 66 b o (.agg xs) := store_rule (by kernel_rfl) w b o xs
theorem wlSig (dst : Option Tmp) (x : Operand) (ty : TypeId) (pos : String) (after : Array Edge) (g : Option (Nat × Bool)) (a : Act) (w : World) (K : Act → World → Prop) (Q : Exit → Act → World → Prop) :
    Oper.wp Tryz.prog { dst := dst, op := .load 66 x, type := ty, pos := pos, after := after, guard := g } a w K Q =
      (match a.eval x with
      | .pointer (some ⟨b, o, none⟩) =>
        (match w.heap[b]? with
        | some (.cells cs _ _) => if o + 64 ≤ cs.size then K (a.put dst (.agg (cs.extract o (o + 64)))) w else farW Tryz.prog { dst := dst, op := .load 66 x, type := ty, pos := pos, after := after, guard := g } a w K Q
        | _ => farW Tryz.prog { dst := dst, op := .load 66 x, type := ty, pos := pos, after := after, guard := g } a w K Q)
      | _ => farW Tryz.prog { dst := dst, op := .load 66 x, type := ty, pos := pos, after := after, guard := g } a w K Q) := wp_load_rule (d := _) Tryz.underlying66 rfl (by kernel_rfl) dst x ty pos after g a w K Q
theorem ldLim (w : World) (b o : Nat) : (Instr.loadAt 52 (.pointer (some ⟨b, o, none⟩))).run Tryz.prog w =
      match w.heap[b]? with
      | some (.cells cs _ _) => if o + 3 ≤ cs.size then .ok (.agg (cs.extract o (o + 3))) w else farL Tryz.prog w 52 b o
      | _ => farL Tryz.prog w 52 b o := load_rule (d := _) Tryz.underlying52 rfl (by kernel_rfl) w b o
theorem stLim (w : World) (b o : Nat) (xs : Array Value) : (Instr.storeAt 52 (.pointer (some ⟨b, o, none⟩)) (.agg xs)).run Tryz.prog w =
      match w.heap[b]? with
      | some (.cells cs U (0, 0)) =>
        if o + 3 ≤ cs.size ∧ xs.size = 3 ∧ xs.all (·.oneCell') = true then .ok () (setBlock w b (.cells (if o = 0 ∧ 3 = cs.size then xs else wr cs o xs.toList) U (0, 0))) else farS Tryz.prog w 52 b o (.agg xs)
      | _ => farS Tryz.prog w 52 b o (.agg xs) := store_rule (by kernel_rfl) w b o xs
theorem wlLim (dst : Option Tmp) (x : Operand) (ty : TypeId) (pos : String) (after : Array Edge) (g : Option (Nat × Bool)) (a : Act) (w : World) (K : Act → World → Prop) (Q : Exit → Act → World → Prop) :
    Oper.wp Tryz.prog { dst := dst, op := .load 52 x, type := ty, pos := pos, after := after, guard := g } a w K Q =
      (match a.eval x with
      | .pointer (some ⟨b, o, none⟩) =>
        (match w.heap[b]? with
        | some (.cells cs _ _) => if o + 3 ≤ cs.size then K (a.put dst (.agg (cs.extract o (o + 3)))) w else farW Tryz.prog { dst := dst, op := .load 52 x, type := ty, pos := pos, after := after, guard := g } a w K Q
        | _ => farW Tryz.prog { dst := dst, op := .load 52 x, type := ty, pos := pos, after := after, guard := g } a w K Q)
      | _ => farW Tryz.prog { dst := dst, op := .load 52 x, type := ty, pos := pos, after := after, guard := g } a w K Q) := wp_load_rule (d := _) Tryz.underlying52 rfl (by kernel_rfl) dst x ty pos after g a w K Q
def qr (R : List Key) (nx mn md : Int) : Array Value := (cellsOf kc R).toArray ++ #[.int .i64 nx, .int .i64 mn, .int .i64 md]
def ring0 : List Key := List.replicate 150 key0
theorem cells_len (R : List Key) : (cellsOf kc R).length = R.length * 32 := cellsOf_len (n := 32) kc_size R
theorem qr_size {R : List Key} (h : R.length = 150) (nx mn md : Int) : (qr R nx mn md).size = 4803 := by
  simp [qr, cells_len, h]
def zQueue : Array Value := qr ring0 0 0 0
theorem zQ_zero (w : World) : (zeroValue 139).run Tryz.prog w = .ok (.agg zQueue) w := by kernel_rfl
theorem qr_set {R : List Key} (h : R.length = 150) (nx mn md : Int) (j : Nat) (v : Value) : (qr R nx mn md).setIfInBounds (4800 + j) v = (cellsOf kc R).toArray ++ (#[.int .i64 nx, .int .i64 mn, .int .i64 md] : Array Value).setIfInBounds j v := by
  unfold qr
  rw [Array.setIfInBounds_append_right (by simp [cells_len, h])]
  congr 2
  simp [cells_len, h]
theorem bldQueue (w : World) : (Instr.build 139 #[(3, .int .i64 1)]).run Tryz.prog w = .ok (.agg (qr ring0 0 0 1)) w := by
  refine run_build_struct (z := .agg zQueue) (places := #[(0, 4800), (4800, 1), (4801, 1), (4802, 1)]) Tryz.underlying139 zQ_zero (fun w => by kernel_rfl) ?_ w
  show Instr.fill _ zQueue [(3, _)] = _
  rw [fill_cons (off := 4802) (n := 1) rfl rfl (by rw [show zQueue.size = 4803 from qr_size (by simp [ring0]) 0 0 0]; omega)]
  refine congrArg some ?_
  show zQueue.setIfInBounds (4800 + 2) (.int .i64 1) = _
  exact qr_set (by simp [ring0]) 0 0 0 2 _
abbrev ptrV (p : Nat) : Value := .pointer (some ⟨p, 0, none⟩)
theorem bldGround (a b c : Nat) (w : World) : (Instr.build 122 #[(0, ptrV a), (1, ptrV b), (2, ptrV c)]).run Tryz.prog w = .ok (.agg #[ptrV a, ptrV b, ptrV c]) w := by kernel_rfl
theorem bldBlock (x y z t : Nat) (w : World) : (Instr.build 125 #[(0, .agg #[ptrV x, ptrV y, ptrV z]), (1, ptrV t)]).run Tryz.prog w = .ok (.agg #[ptrV x, ptrV y, ptrV z, ptrV t, .bool false, .slice none 0 0, .slice none 0 0, .int .u64 0]) w := by kernel_rfl
theorem bldTr (x y z : UInt64) (m : Nat) (w : World) : (Instr.build 196 #[(0, .agg #[u64v x, u64v y, u64v z]), (3, .map (some m))]).run Tryz.prog w = .ok (.agg #[u64v x, u64v y, u64v z, .int .u64 0, .int .u64 0, .map (some m)]) w := by kernel_rfl
end Go.Proofs.YtofpnmoeimjnnaaGreat
