/- The lemmas of the proof, part 4: how the program and its data lie in memory, and what its functions do. -/
import Derived.Test.YtofpnmoeimjnnaaGreatK3
namespace Go.Proofs.YtofpnmoeimjnnaaGreat
open Go.RowKit
open Go.ChangeMaps (setBlock)
set_option linter.unusedSimpArgs false
set_option linter.unusedVariables false
attribute [local go_sem] cell_blk frozen_blk one_int one_bool one_ptr one_slice one_map Value.cells
attribute [local go_sem ↓] wlKey ldKey stKey wlMsg ldMsg stMsg
attribute [local go_sem] kc_ext kc_one kc_one0 kc_size zKey_size one_slice mgx_size mgx_ext mgx_one mgx_one0
attribute [local go_sem ↓] wlHs ldHs stHs wlIn ldIn stIn wlLo ldLo stLo
attribute [local go_sem] zMsg_size zMsg_all zMsg_all0 mg0 mg1 mg2 mg3 mg4 mg37 mg38
def MsgL (b : Nat) (w : World) (r : RdR) : Prop := SlOwn kc 32 153 w b (.slice r.ks.a r.ks.l.length r.ks.c) r.ks.l ∧ (SlOwn inr 3 155 w b (.slice r.ins.a r.ins.l.length r.ins.c) r.ins.l ∧ ∀ i ∈ r.ins.l, YAt b w i.a.a i.a.l ∧ YAt b w i.d.a i.d.l) ∧
  (SlOwn lor 34 157 w b (.slice r.lks.a r.lks.l.length r.lks.c) r.lks.l ∧ ∀ i ∈ r.lks.l, YAt b w i.w.a i.w.l ∧ YAt b w i.r.a i.r.l)
def RgetP (w : World) (l : List UInt8) (en : Ending) (w' : World) : Prop := Mod (fun _ => False) w w' ∧ match pMsg l 0 with
  | .ok (x, k) => ∃ r, en = .returned (.tuple #[.agg (msr r), i64n k, i64n 0]) ∧ MsgL w.heap.size w' r ∧ msgP r = x
  | .error n => en = .returned (.tuple #[.agg zMsg, i64n 0, i64n n])
theorem bTk (a : Option Addr) (n c : Nat) (w : World) : (Instr.build 207 #[(0, .slice a n c)]).run Tryz.prog w = .ok (.agg (tkC a n c 0 0)) w := by kernel_rfl
theorem Inv.ifn {β : Type} {R F : PR β} {e n : Nat} {p : Prop} [Decidable p] (h : Inv R e (if p then .error n else F)) (hp : e = 0 → ¬ p) : Inv R e F :=
  ⟨fun h0 => by rw [h.1 h0, if_neg (hp h0)], h.2⟩
theorem mg37' {v0 : Bool} {h0 h1 h2 : UInt8} {ka : Option Addr} {kn kc' : Nat} {rc : Key} {ia : Option Addr} {n1 c1 : Nat} {la : Option Addr} {n2 c2 : Nat} (h : 37 < (mgx v0 h0 h1 h2 ka kn kc' rc ia n1 c1 la n2 c2).size) : (mgx v0 h0 h1 h2 ka kn kc' rc ia n1 c1 la n2 c2)[37] = .slice ia n1 c1 := at_get (mg37 ..) h
theorem mg38' {v0 : Bool} {h0 h1 h2 : UInt8} {ka : Option Addr} {kn kc' : Nat} {rc : Key} {ia : Option Addr} {n1 c1 : Nat} {la : Option Addr} {n2 c2 : Nat} (h : 38 < (mgx v0 h0 h1 h2 ka kn kc' rc ia n1 c1 la n2 c2).size) : (mgx v0 h0 h1 h2 ka kn kc' rc ia n1 c1 la n2 c2)[38] = .slice la n2 c2 := at_get (mg38 ..) h
attribute [local go_sem] mg37' mg38'
theorem inr_sz (x : InR) : (inr x).size = 3 := rfl
theorem inr_al (x : InR) : (inr x).all (·.oneCell') = true := by simp [inr, Value.oneCell']
theorem inr_al0 (x : InR) : (inr x).all (·.oneCell') 0 3 = true := all_of (inr_sz x) (inr_al x)
theorem inr_ex (x : InR) : (inr x).extract 0 3 = inr x := rfl
theorem inr1 (x : InR) : (inr x)[1]? = some (.slice x.a.a x.a.l.length x.a.c) := rfl
theorem inr2 (x : InR) : (inr x)[2]? = some (.slice x.d.a x.d.l.length x.d.c) := rfl
theorem lor32 (x : LoR) : (lor x)[32]? = some (.slice x.w.a x.w.l.length x.w.c) := kx_get x.t _ 0
theorem lor33 (x : LoR) : (lor x)[33]? = some (.slice x.r.a x.r.l.length x.r.c) := kx_get x.t _ 1
theorem zIn_sz : zIn.size = 3 := rfl
theorem lor_sz (x : LoR) : (lor x).size = 34 := kx_size _ _
theorem lor_al (x : LoR) : (lor x).all (·.oneCell') = true := kx_one _ _ rfl
theorem lor_al0 (x : LoR) : (lor x).all (·.oneCell') 0 34 = true := all_of (lor_sz x) (lor_al x)
theorem lor_ex (x : LoR) : (lor x).extract 0 34 = lor x := kx_all _ _ rfl
theorem zLo_sz : zLo.size = 34 := lor_sz _
attribute [local go_sem] inr_sz inr_al inr_al0 inr_ex zIn_sz lor_sz lor_al lor_al0 lor_ex zLo_sz inr1 inr2 lor32 lor33
theorem TkA.modQ {p q : Nat} {a : Option Addr} {l : List UInt8} {c k e : Nat} {w w' : World} (h : TkA p a l c k e w) (m : Mod (fun i => i = q) w w') (hp : p ≠ q) (ha : ∀ x, a = some x → x.block ≠ q) : TkA p a l c k e w' := by
  obtain ⟨h1, h2, h3⟩ := h
  exact ⟨m.at_ne h1 hp, h2.mod m (fun b o e he => ha _ e he), h3⟩
theorem own_ty {α : Type} {f : α → Array Value} {n : Nat} {E : TypeId} {w : World} {base : Nat} {v : Value} {l : List α} (h : SlOwn f n E w base v l) {g : Nat} {C : Array Value} {U : TypeId} (hg : w.heap[g]? = some (.cells C U (0, 0))) (hE : U ≠ E) : ¬ v.ownBlock = some g := fun e => by
  obtain ⟨cur, hc⟩ := own_blk2 h g e
  rw [hg] at hc
  injection hc with hc
  injection hc with _ hc
  exact hE hc
theorem own_ne {α : Type} {f : α → Array Value} {n : Nat} {E U : TypeId} {w : World} {base p : Nat} {v : Value} {l : List α} {C : Array Value} {fr : Nat × Nat} (h : SlOwn f n E w base v l) (hk : w.heap[p]? = some (.cells C U fr)) (hE : U ≠ E) : ∀ g, v.ownBlock = some g → ¬ g = p := fun g hg e => by
  obtain ⟨cur, hc⟩ := own_blk2 h g hg
  rw [e, hk] at hc
  injection hc with hc
  injection hc with _ hc
  exact hE hc
theorem Inv.nm {α β : Type} {R : PR β} {e : Nat} {res : PR α} {F : α → Nat → PR β} (h : Inv R e (pBind res F)) : ∃ G, Inv R e (pBind res G) ∧ G = F := ⟨F, h, rfl⟩
def TkLd (p : Nat) (a : Option Addr) (l : List UInt8) (c k : Nat) (v : Value) : Land := fun T w => ∃ (x : Key) (k' e' : Nat), v = .agg (kc x) ∧ Tk 0 (pKey l k) x k' e' ∧ k' ≤ l.length ∧ (T p ∧ w.heap[p]? = some (.cells (tkC a l.length c k' e') 207 (0, 0)))
theorem goodTkLd (p : Nat) (a : Option Addr) (l : List UInt8) (c k : Nat) (v : Value) : Good (TkLd p a l c k v) := Good.ex fun _ => Good.ex fun _ => Good.ex fun _ => (Good.pure _).and ((Good.pure _).and ((Good.pure _).and (Good.at _ _)))
theorem keyL {p : Nat} {a : Option Addr} {l : List UInt8} {c k : Nat} {T : Nat → Prop} {w : World} (h : TkA p a l c k 0 w) (hT : T p) : Calls Tryz.prog 94 #[pV p] w fun e w' => ∃ v, e = .returned v ∧ Mod T w w' ∧ TkLd p a l c k v (Grow T w w') w' :=
  (tkey_c w h).mono (fun e w' ⟨v, x, k', e', h1, h2, h3, h4, h5⟩ => ⟨v, h1, h5.mono (fun i _ e => by rw [e]; exact hT), x, k', e', h2, h3, h4.2.2.1, .inl hT, h4.1⟩)
def mkR (z : Bool) (b0 b1 b2 : UInt8) (ks : Sl Key) (rc : Key) (ins : Sl InR) (lks : Sl LoR) : RdR := ⟨⟨none, [], 0⟩, ⟨none, [], 0⟩, z, b0, b1, b2, ks, rc, ins, lks, ⟨none, [], 0⟩, 0, 0, 0, 0, 0, 0⟩
theorem MsgL.mod {b : Nat} {w w' : World} {r : RdR} {S : Nat → Prop} (h : MsgL b w r) (hm : Mod S w w') (hS : ∀ g C E, w.heap[g]? = some (.cells C E (0, 0)) → (E = 153 ∨ E = 155 ∨ E = 157 ∨ E = 5) → ¬ S g) : MsgL b w' r := by
  obtain ⟨h1, ⟨h2, h3⟩, h4, h5⟩ := h
  have hy : ∀ g C, w.heap[g]? = some (.cells C 5 (0, 0)) → ¬ S g := fun g C hk => hS g C _ hk (.inr (.inr (.inr rfl)))
  exact ⟨h1.mod hm (fun g hg => by obtain ⟨C, hk⟩ := own_blk2 h1 g hg; exact hS g C _ hk (.inl rfl)),
    ⟨h2.mod hm (fun g hg => by obtain ⟨C, hk⟩ := own_blk2 h2 g hg; exact hS g C _ hk (.inr (.inl rfl))), fun i hi => ⟨(h3 i hi).1.mod hm hy, (h3 i hi).2.mod hm hy⟩⟩,
    h4.mod hm (fun g hg => by obtain ⟨C, hk⟩ := own_blk2 h4 g hg; exact hS g C _ hk (.inr (.inr (.inl rfl)))), fun i hi => ⟨(h5 i hi).1.mod hm hy, (h5 i hi).2.mod hm hy⟩⟩
theorem ty_ne {w : World} {p : Nat} {C : Array Value} {U : TypeId} {fr : Nat × Nat} (hk : w.heap[p]? = some (.cells C U fr)) {g : Nat} {C' : Array Value} {E : TypeId} (hg : w.heap[g]? = some (.cells C' E (0, 0))) (hE : U ≠ E) : ¬ g = p := fun e => by
  rw [e, hk] at hg
  injection hg with hg
  injection hg with _ hg
  exact hE hg
theorem two_ne {w : World} {p q : Nat} {C D : Array Value} (hp : w.heap[p]? = some (.cells C 207 (0, 0))) (hq : w.heap[q]? = some (.cells D 43 (0, 0))) : ∀ g C E, w.heap[g]? = some (.cells C E (0, 0)) → (E = 153 ∨ E = 155 ∨ E = 157 ∨ E = 5) → ¬ (g = p ∨ g = q) := fun g C' E hg hE h => by
  rcases h with h | h
  · exact ty_ne hp hg (by rcases hE with rfl | rfl | rfl | rfl <;> decide) h
  · exact ty_ne hq hg (by rcases hE with rfl | rfl | rfl | rfl <;> decide) h
theorem bInI (q : UInt8) (w : World) : (Instr.build 155 #[(0, u8v q)]).run Tryz.prog w = .ok (.agg (inr ⟨q, ⟨none, [], 0⟩, ⟨none, [], 0⟩⟩)) w := by kernel_rfl
theorem inr_a (q : UInt8) (A D : Sl UInt8) {a : Option Addr} {x : List UInt8} {n c : Nat} (h : x.length = n) : (inr ⟨q, A, D⟩).setIfInBounds 1 (.slice a n c) = inr ⟨q, ⟨a, x, c⟩, D⟩ := by
  subst h
  rfl
theorem inr_d (q : UInt8) (A D : Sl UInt8) {a : Option Addr} {x : List UInt8} {n c : Nat} (h : x.length = n) : (inr ⟨q, A, D⟩).setIfInBounds 2 (.slice a n c) = inr ⟨q, A, ⟨a, x, c⟩⟩ := by
  subst h
  rfl
theorem msr_mk {z : Bool} {b0 b1 b2 : UInt8} {a1 a2 a3 : Option Addr} {L : List Key} {L2 : List InR} {L3 : List LoR} {i c1 i2 c2 i3 c3 : Nat} {rc : Key} (h1 : L.length = i) (h2 : L2.length = i2) (h3 : L3.length = i3) : mgx z b0 b1 b2 a1 i c1 rc a2 i2 c2 a3 i3 c3 = msr (mkR z b0 b1 b2 ⟨a1, L, c1⟩ rc ⟨a2, L2, c2⟩ ⟨a3, L3, c3⟩) := by
  subst h1
  subst h2
  subst h3
  rfl
theorem bLoI (k : Key) (w : World) : (Instr.build 157 #[(0, .agg (kc k))]).run Tryz.prog w = .ok (.agg (lor ⟨k, ⟨none, [], 0⟩, ⟨none, [], 0⟩⟩)) w := by
  refine run_build_struct (z := .agg zLo) (places := #[(0, 32), (32, 1), (33, 1)]) Tryz.underlying157 (fun w => by kernel_rfl) (fun w => by kernel_rfl) ?_ w
  show Instr.fill _ zLo [(0, _)] = _
  rw [fill_cons (off := 0) (n := 32) rfl (by simp [Value.cells]) (by rw [zLo_sz]; omega)]
  show some (wr zLo 0 (kc k).toList) = some _
  congr 1
  exact lox_key key0 k none 0 0 none 0 0
theorem lor_w' (q : Key) (A D : Sl UInt8) {a : Option Addr} {x : List UInt8} {n c : Nat} (h : x.length = n) : (lor ⟨q, A, D⟩).setIfInBounds 32 (.slice a n c) = lor ⟨q, ⟨a, x, c⟩, D⟩ := by
  subst h
  exact kx_set1 q _ 0 _
theorem lor_r' (q : Key) (A D : Sl UInt8) {a : Option Addr} {x : List UInt8} {n c : Nat} (h : x.length = n) : (lor ⟨q, A, D⟩).setIfInBounds 33 (.slice a n c) = lor ⟨q, A, ⟨a, x, c⟩⟩ := by
  subst h
  exact kx_set1 q _ 1 _
set_option maxRecDepth 20000 in
set_option maxHeartbeats 6400000 in
theorem rget3_c {a : Option Addr} {l : List UInt8} {c : Nat} (w : World) (hl : SlAt uc 1 w a l) (hc : l.length ≤ c) (hn : a = none → c = 0) (hln : l.length ≤ 1000000) (hin : ∀ x, a = some x → x.block < w.heap.size) :
    Calls Tryz.prog 62 #[.slice a l.length c] w (RgetP w l) := by
  have HL := Lib.hid (And.intro hl (And.intro hc (And.intro hn (And.intro hln hin))))
  obtain ⟨ll, hll⟩ : ∃ ll, l.length = ll := ⟨_, rfl⟩
  have HLL := Lib.hid hll
  rw [hll]
  clear hl hc hn hln hin hll
  go_enter Tryz.func62, Tryz.ntmps62
  go_upto_region 0 with fail
  refine wp_pass0 (C := fun _ _ _ => False) (κ := fun i => [3, 0, 0].getD i 0) [0, 1, 2] (by kernel_rfl) (by kernel_rfl) (fun _ _ d _ _ h => by cases d <;> first | exact h | exact absurd h (hP _ _ _)) ?_
  (refine TD.allocB (by simp only [zA, zB, zC]; rfl) rfl ?hw1 rfl rfl alMsg (fun p2 hp2 => ?hn1); (case hw1 => rfl); (try simp only [Act.put, zF, zG, zH]))
  (refine TD.val0 (v := ?v2) (by simp only [zA, zB, zC]; rfl) rfl ?hw2 (fun w1 => ?hy2) ?hn2; (case hw2 => rfl); (case hy2 => (go_simp; (try with_reducible rfl))); (try simp only [Act.put, zF, zG, zH]))
  (refine TD.val0 (v := ?v3) (by simp only [zA, zB, zC]; rfl) rfl ?hw3 (fun w1 => ?hy3) ?hn3; (case hw3 => rfl); (case hy3 => (go_simp; (try with_reducible rfl))); (try simp only [Act.put, zF, zG, zH]))
  refine TD.nil (fun w1 hr => ?_)
  have kp2 := hr.box p2 _ (by first | exact Bx.set_same _ _ _ | (simp only [Bx.set_same]; rfl)); dsimp only [Value.cells] at kp2; obtain ⟨gp2, kp2⟩ := kp2
  have m1 := hr.mod
  clear hr
  replace kp2 : w1.heap[p2]? = some (.cells zMsg 43 (0, 0)) := kp2
  have hb := bTk
  go_upto_region 1 with fail
  have Lkp2 := lt_size kp2
  refine wp_pass0 (C := fun _ _ _ => False) (κ := fun i => [0, 0, 3, 0].getD i 0) [0, 1, 2, 3] (by kernel_rfl) (by kernel_rfl) (fun _ _ d _ _ h => by cases d <;> first | exact h | exact absurd h (hP _ _ _)) ?_
  (refine TD.val0 (v := ?v4) (by simp only [zA, zB, zC]; rfl) rfl ?hw4 (fun w1 => ?hy4) ?hn4; (case hw4 => rfl); (case hy4 => (go_simp; (try with_reducible rfl))); (try simp only [Act.put, zF, zG, zH]))
  (refine TD.build (v := ?v5) (ps := ?p5) (by simp only [zA, zB, zC]; rfl) rfl ?hw5 rfl ?hx5 (fun w1 => ?hy5) ?hn5; (case hw5 => rfl); (case hx5 => (simp only [List.map_toArray, List.map_cons, List.map_nil, Act.eval, zD, zA, zB, zC, zE]; (try rfl))); (case hy5 => (rw [hb]; (try with_reducible rfl))); (try simp only [Act.put, zF, zG, zH]))
  (refine TD.box (v := ?v6) (by simp only [zA, zB, zC]; rfl) rfl ?hw6 rfl rfl ?hx6 (fun p16 hp16 => ?hn6); (case hw6 => rfl); (case hx6 => (simp only [Act.eval, zD, zA, zB, zC, zE]; (try rfl))); (try simp only [Act.put, zF, zG, zH]))
  (refine TD.val0 (v := ?v7) (by simp only [zA, zB, zC]; rfl) rfl ?hw7 (fun w1 => ?hy7) ?hn7; (case hw7 => rfl); (case hy7 => (go_simp; (try with_reducible rfl))); (try simp only [Act.put, zF, zG, zH]))
  refine TD.nil (fun w2 hr => ?_)
  replace kp2 := hr.mod.at kp2 (fun h => h)
  have kp16 := hr.box p16 _ (by first | exact Bx.set_same _ _ _ | (simp only [Bx.set_same]; rfl)); dsimp only [Value.cells] at kp16; obtain ⟨gp16, kp16⟩ := kp16
  have m2 := m1.trans hr.mod
  have hp16b : w1.heap.size ≤ p16 := gp16
  have HA0 : Hid (TkA p16 a l c 0 0 w2) := Lib.hid ⟨by rw [HLL.out]; exact kp16, HL.out.1.mod0 m2, Nat.zero_le _, HL.out.2.1, HL.out.2.2.1, fun x hx e => by have := HL.out.2.2.2.2 x hx; have := m1.size; omega, HL.out.2.2.2.1⟩
  clear hr hb
  have h2p : p2 ≠ p16 := by have := lt_size kp2; omega
  have hp16 := lt_size kp16
  have hb := bMsg0
  go_upto_region 2 with fail
  have Lkp2 := lt_size kp2
  have Lkp16 := lt_size kp16
  refine wp_pass0 (C := fun _ _ _ => False) (κ := fun i => [0, 3, 4].getD i 0) [0, 1, 2] (by kernel_rfl) (by kernel_rfl) (fun _ _ d _ _ h => by cases d <;> first | exact h | exact absurd h (hP _ _ _)) ?_
  (refine TD.build (v := ?v8) (ps := ?p8) (by simp only [zA, zB, zC]; rfl) rfl ?hw8 rfl ?hx8 (fun w1 => ?hy8) ?hn8; (case hw8 => rfl); (case hx8 => (simp only [List.map_toArray, List.map_cons, List.map_nil, Act.eval, zD, zA, zB, zC, zE]; (try rfl))); (case hy8 => (rw [hb]; (try with_reducible rfl))); (try simp only [Act.put, zF, zG, zH]))
  (refine TD.allocB (by simp only [zA, zB, zC]; rfl) rfl ?hw9 rfl rfl alMsg (fun p6 hp6 => ?hn9); (case hw9 => rfl); (try simp only [Act.put, zF, zG, zH]))
  (refine TD.storeB (d := ?d10) (T := ?T10) (y := ?y10) (p := ?p10) (b := ?b10) (v := ?v10) (by simp only [zA, zB, zC]; rfl) rfl ?hw10 ?hd10 ?hop10 ?hev10 ?hx10 ?hb10 ?htag10 (fun w1 hb1 => ?hy10) ?hn10; (case hw10 => rfl); (case hd10 => rfl); (case hop10 => rfl); (case hev10 => (simp only [Act.eval, zD, zA, zB, zC, zE]; (try rfl))); (case hx10 => (simp only [Act.eval, zD, zA, zB, zC, zE]; (try rfl))); (case hb10 => first | exact Bx.set_same _ _ _ | (simp only [Bx.set_same]; rfl)); (case hy10 => (go_simp; (try first | with_reducible rfl | (rw [setCell_blk hb1]; rfl)))); (try simp only [Act.put, zF, zG, zH]))
  refine TD.nil (fun wc hr => ?_)
  replace kp2 := hr.mod.at kp2 (fun h => h)
  replace kp16 := hr.mod.at kp16 (fun h => h)
  have kp6 := hr.box p6 _ (by first | exact Bx.set_same _ _ _ | (simp only [Bx.set_same]; rfl)); dsimp only [Value.cells] at kp6; obtain ⟨gp6, kp6⟩ := kp6
  have m3 := m2.trans hr.mod
  have hws := m2.size
  have hw0 : w.heap.size ≤ p2 := gp2
  replace kp6 : wc.heap[p6]? = some (.cells (mgx false 0 0 0 none 0 0 key0 none 0 0 none 0 0) 43 (0, 0)) := kp6
  have HM : Hid (Mod (fun _ => False) w wc) := Lib.hid m3
  have HA : Hid (TkA p16 a l c 0 0 wc) := Lib.hid (HA0.out.mod0 hr.mod)
  have HI : Hid (Inv (pMsg l 0) 0 (pMsg l 0)) := Lib.hid (Inv.start _)
  have h26 : p2 ≠ p6 := by have := lt_size kp2; omega
  have h6p : p6 ≠ p16 := by omega
  have hp16w : w.heap.size ≤ p16 := by omega
  have hp6w : w.heap.size ≤ p6 := by omega
  clear hr m1 m2 m3 kp16 hws hb
  go_wp2_with fail
  go_at_call 92
  refine (tbyte_c _ HA.out).mono ?_
  rintro en w3 ⟨v9, q, k1, e1, rfl, rfl, hT, hA, hm⟩
  have HI1 := Lib.hid (HI.out.step hT (NE.byte _ _))
  have kt := hA.1
  unfold tkC at kt
  have HA := Lib.hid hA
  have HM := Lib.hid (HM.out.then hm (fun i hi e => by omega))
  replace kp2 := hm.at_ne kp2 h2p
  replace kp6 := hm.at_ne kp6 h6p
  clear hT hA hm HI
  rw [HLL.out] at kt
  go_upto_region 4 with fail
  go_cut [28] from 20 (fun s28 wx => ∃ z : Bool, s28 = .bool z ∧ Hid (z = true ↔ (e1 = 0 ∧ 128 < q.toNat)) ∧ wx = w3)
  case first =>
    as_aux_lemma =>
    by_cases he : e1 = 0
    · have he0 : ((e1 : Int) == 0) = true := by simpa using he
      by_cases hq : 128 < q.toNat
      · have hd : decide (128 < q.toNat) = true := decide_eq_true hq
        have hd1 : decide ((q.toNat : Int) > 128) = true := decide_eq_true (by omega)
        go_wp2_with fail
        go_meet
        case rel => exact ⟨true, rfl, Lib.hid ⟨fun _ => ⟨he, hq⟩, fun _ => rfl⟩, rfl⟩
      · have hd : decide (128 < q.toNat) = false := decide_eq_false hq
        have hd1 : decide ((q.toNat : Int) > 128) = false := decide_eq_false (by omega)
        go_wp2_with fail
        go_meet
        case rel => exact ⟨false, rfl, Lib.hid ⟨fun h => (by cases h), fun h => absurd h.2 hq⟩, rfl⟩
    · have he0 : ((e1 : Int) == 0) = false := by simpa using he
      go_wp2_with fail
      go_meet
      case rel => exact ⟨false, rfl, Lib.hid ⟨fun h => (by cases h), fun h => absurd h.1 he⟩, rfl⟩
  case rest =>
  obtain ⟨z, rfl, HZ, rfl⟩ := hcut
  cases z with
  | true =>
    as_aux_lemma =>
    have HE : Hid (pMsg l 0 = .error 4) := Lib.hid (by
      obtain ⟨h1, h2⟩ := HZ.out.1 rfl
      rw [HI1.out.1 h1, if_pos h2])
    have hb := bMsg0
    go_upto_region 5 with fail
    have Lkp2 := lt_size kp2
    refine wp_pass0 (C := fun _ _ _ => False) (κ := fun i => [0, 5, 0, 0].getD i 0) [0, 1, 2, 3] (by kernel_rfl) (by kernel_rfl) (fun _ _ d _ _ h => by cases d <;> first | exact h | exact absurd h (hP _ _ _)) ?_
    (refine TD.build (v := ?v11) (ps := ?p11) (by simp only [zA, zB, zC]; rfl) rfl ?hw11 rfl ?hx11 (fun w1 => ?hy11) ?hn11; (case hw11 => rfl); (case hx11 => (simp only [List.map_toArray, List.map_cons, List.map_nil, Act.eval, zD, zA, zB, zC, zE]; (try rfl))); (case hy11 => (rw [hb]; (try with_reducible rfl))); (try simp only [Act.put, zF, zG, zH]))
    refine TD.eff (by simp only [zA, zB, zC]; rfl) rfl (fun w5 hr => ?_)
    replace kp2 := hr.mod.at kp2 (fun h => h)
    have HM5 := Lib.hid (HM.out.then0 hr.mod)
    clear hr
    (refine eff_store (X := ?X13) (Y := ?Y13) (w' := ?w13) (by simp only [zA, zB, zC]; rfl) ?hw13 rfl ?hx13 ?hz13 ?hy13 ?hn13; (case hw13 => rfl); (case hx13 => (simp only [Act.eval, zD, zA, zB, zC, zE]; (try rfl))); (case hz13 => (simp only [Act.eval, zD, zA, zB, zC, zE]; (try rfl))); (case hy13 => (go_simp; (try with_reducible rfl))))
    (first | refine TE.mid_set kp2 (fun wn kp2 mS => ?_) | refine TE.mid_setCell kp2 (fun wn kp2 mS => ?_))
    have HM6 := Lib.hid (HM5.out.then mS (fun i hi e => by omega))
    clear mS
    (refine TE.val0 (v := ?v14) (by simp only [zA, zB, zC]; rfl) ?hw14 (fun w1 => ?hy14) ?hn14; (case hw14 => rfl); (case hy14 => (go_simp; (try with_reducible rfl))); (try simp only [Act.put, zF, zG, zH]))
    (refine TE.val0 (v := ?v15) (by simp only [zA, zB, zC]; rfl) ?hw15 (fun w1 => ?hy15) ?hn15; (case hw15 => rfl); (case hy15 => (go_simp; (try with_reducible rfl))); (try simp only [Act.put, zF, zG, zH]))
    refine TE.nil ?_
    go_wp2_with fail
    refine bodyPost_ret (results_ctt rfl rfl (ldZM kp2)) rfl ?_
    unfold RgetP
    rw [HE.out]
    exact ⟨HM6.out, rfl⟩
  | false =>
    have HI := Lib.hid (HI1.out.ifn (fun h0 h => by have := HZ.out.2 ⟨h0, h⟩; cases this))
    clear HI1 HZ
    obtain ⟨z, hz⟩ : ∃ z, ((q.toNat : Int) == 128) = z := ⟨_, rfl⟩
    have hzq : decide (q.toNat = 128) = z := by
      rw [← hz, Bool.eq_iff_iff, decide_eq_true_iff, beq_iff_eq]
      omega
    have HZ := Lib.hid hzq
    clear hzq kt
    go_upto_if 31 with fail
    go_cut [7] from 8 (fun s7 wx => ∃ (h0 : UInt8) (k2 e2 : Nat), s7 = .int .u8 (h0.toNat : Int) ∧ Hid (Tk e1 (if q.toNat = 128 then pByte l k1 else .ok (q, k1)) h0 k2 e2) ∧ Hid (TkA p16 a l c k2 e2 wx) ∧ Hid (Mod (fun _ => False) w wx) ∧ wx.heap[p2]? = some (.cells zMsg 43 (0, 0)) ∧ wx.heap[p6]? = some (.cells (mgx z 0 0 0 none 0 0 key0 none 0 0 none 0 0) 43 (0, 0)))
    case first =>
      as_aux_lemma =>
      cases z with
      | false =>
        have HQ : Hid (Tk e1 (if q.toNat = 128 then pByte l k1 else .ok (q, k1)) q k1 e1) := Lib.hid (by rw [if_neg (of_decide_eq_false HZ.out)]; exact Tk.pure)
        go_wp2_with fail
        go_meet
        case rel => exact ⟨q, k1, e1, rfl, HQ, HA, HM, kp2, kp6⟩
      | true =>
        go_upto_region 7 with fail
        have Lkp6 := lt_size kp6
        refine wp_pass0 (C := fun _ _ _ => False) (κ := fun i => [0, 5].getD i 0) [0, 1] (by kernel_rfl) (by kernel_rfl) (fun _ _ d _ _ h => by cases d <;> first | exact h | exact absurd h (hP _ _ _)) ?_
        (refine TD.val0 (v := ?v16) (by simp only [zA, zB, zC]; rfl) rfl ?hw16 (fun w1 => ?hy16) ?hn16; (case hw16 => rfl); (case hy16 => (go_simp; (try with_reducible rfl))); (try simp only [Act.put, zF, zG, zH]))
        refine TD.eff (by simp only [zA, zB, zC]; rfl) rfl (fun wE hr => ?_)
        replace kp6 := hr.mod.at0 kp6
        have mE := hr.mod
        (refine eff_store (X := ?X17) (Y := ?Y17) (w' := ?w17) (by simp only [zA, zB, zC]; rfl) ?hw17 rfl ?hx17 ?hz17 ?hy17 ?hn17; (case hw17 => rfl); (case hx17 => (simp only [Act.eval, zD, zA, zB, zC, zE]; (try rfl))); (case hz17 => (simp only [Act.eval, zD, zA, zB, zC, zE]; (try rfl))); (case hy17 => (go_simp; (try with_reducible rfl))))
        (first | refine TE.nil_set kp6 (fun w4 kp6 mS => ?_) | refine TE.nil_setCell kp6 (fun w4 kp6 mS => ?_))
        replace kp6 : w4.heap[p6]? = some (.cells (mgx true 0 0 0 none 0 0 key0 none 0 0 none 0 0) 43 (0, 0)) := by
          rw [kp6, mgx_v0]
        have m4 := (mE.mono (T := fun i => i = p6) (fun _ _ h => h.elim)).trans mS
        have HA := Lib.hid (TkA.modN HA0.out (by omega) HA.out m4)
        have HM := Lib.hid (HM.out.then m4 (fun i hi e => by omega))
        replace kp2 := m4.at_ne kp2 h26
        clear hr mE mS m4
        go_wp2_with fail
        go_at_call 92
        refine (tbyte_c _ HA.out).mono ?_
        rintro en w5 ⟨v9, q2, k2, e2, rfl, rfl, hT, hA, hm⟩
        have HF := Lib.hid (And.intro (by rw [if_pos (of_decide_eq_true HZ.out)]; exact hT : Tk e1 (if q.toNat = 128 then pByte l k1 else .ok (q, k1)) q2 k2 e2) (And.intro hA (HM.out.then hm (fun i hi e => by omega))))
        replace kp2 := hm.at_ne kp2 h2p
        replace kp6 := hm.at_ne kp6 h6p
        clear hT hA hm
        go_wp2_with fail
        go_meet
        case rel => exact ⟨q2, k2, e2, rfl, Lib.hid HF.out.1, Lib.hid HF.out.2.1, Lib.hid HF.out.2.2, kp2, kp6⟩
    case rest =>
    obtain ⟨b0, k2, e2, rfl, HQ, HA, HM, kp2, kp6⟩ := hcut
    have HI := Lib.hid (HI.out.step HQ.out (by
      split
      · exact NE.byte _ _
      · simp [NE]))
    clear HQ
    go_upto_region 9 with fail
    have Lkp2 := lt_size kp2
    have Lkp6 := lt_size kp6
    refine wp_pass0 (C := fun _ _ _ => False) (κ := fun i => [0, 0, 0, 5].getD i 0) [0, 1, 2, 3] (by kernel_rfl) (by kernel_rfl) (fun _ _ d _ _ h => by cases d <;> first | exact h | exact absurd h (hP _ _ _)) ?_
    (refine TD.val0 (v := ?v18) (by simp only [zA, zB, zC]; rfl) rfl ?hw18 (fun w1 => ?hy18) ?hn18; (case hw18 => rfl); (case hy18 => (go_simp; (try with_reducible rfl))); (try simp only [Act.put, zF, zG, zH]))
    (refine TD.val0 (v := ?v19) (by simp only [zA, zB, zC]; rfl) rfl ?hw19 (fun w1 => ?hy19) ?hn19; (case hw19 => rfl); (case hy19 => (go_simp; (try with_reducible rfl))); (try simp only [Act.put, zF, zG, zH]))
    (refine TD.val0 (v := ?v20) (by simp only [zA, zB, zC]; rfl) rfl ?hw20 (fun w1 => ?hy20) ?hn20; (case hw20 => rfl); (case hy20 => (go_simp; (try with_reducible rfl))); (try simp only [Act.put, zF, zG, zH]))
    refine TD.eff (by simp only [zA, zB, zC]; rfl) rfl (fun wE hr => ?_)
    replace kp2 := hr.mod.at0 kp2
    replace kp6 := hr.mod.at0 kp6
    have mE := hr.mod
    (refine eff_store (X := ?X21) (Y := ?Y21) (w' := ?w21) (by simp only [zA, zB, zC]; rfl) ?hw21 rfl ?hx21 ?hz21 ?hy21 ?hn21; (case hw21 => rfl); (case hx21 => (simp only [Act.eval, zD, zA, zB, zC, zE]; (try rfl))); (case hz21 => (simp only [Act.eval, zD, zA, zB, zC, zE]; (try rfl))); (case hy21 => (go_simp; (try with_reducible rfl))))
    (first | refine TE.nil_set kp6 (fun wc kp6 mS => ?_) | refine TE.nil_setCell kp6 (fun wc kp6 mS => ?_))
    replace kp2 := mS.at_ne kp2 (by omega)
    replace kp6 : wc.heap[p6]? = some (.cells (mgx z b0 0 0 none 0 0 key0 none 0 0 none 0 0) 43 (0, 0)) := by
      rw [kp6, mgx_h0]
    have m4 := (mE.mono (T := fun i => i = p6) (fun _ _ h => h.elim)).trans mS
    have HA := Lib.hid (TkA.modN HA0.out (by omega) HA.out m4)
    have HM := Lib.hid (HM.out.then m4 (fun i hi e => by omega))
    clear hr mE mS m4
    go_upto_region 10 with fail
    have hB := tbyte_c wc HA.out
    refine region_seq 5 rfl ?_
    simp only [List.range, List.range.loop]
    (refine sq_val (v := ?v22) (by simp only [zA, zB, zC]; rfl) ?hw22 ?hy22 ?hn22; (case hw22 => rfl); (case hy22 => (go_simp; (try with_reducible rfl))); (try simp only [Act.put, zF, zG, zH]))
    (refine sq_callT (by simp only [zA, zB, zC]; rfl) ?hw23 ?hy23 hB ?hout (fun vn wn hR => ?hret) (fun ch wn hR => ?hpan); (case hw23 => rfl); (case hy23 => (go_simp; (try (first | with_reducible rfl | (constructor <;> with_reducible rfl))))))
    case hout => exact fun w' h => h.noOut
    case hpan => exact hR.noPan.elim
    case hret =>
    obtain ⟨v9, b1, k9, e9, hv9, rfl, hT, hA, hm⟩ := hR
    cases hv9
    have HI2 := Lib.hid (HI.out.step hT (NE.byte _ _))
    have HA := Lib.hid hA
    have HM := Lib.hid (HM.out.then hm (fun i hi e => by omega))
    replace kp2 := hm.at_ne kp2 h2p
    replace kp6 := hm.at_ne kp6 h6p
    clear hB hT hA hm HI
    (try simp only [Act.put, zF, zG, zH])
    obtain ⟨w4, rfl⟩ : ∃ w4 : World, w4 = wn := ⟨_, rfl⟩
    (refine sq_val (v := ?v24) (by simp only [zA, zB, zC]; rfl) ?hw24 ?hy24 ?hn24; (case hw24 => rfl); (case hy24 => (go_simp; (try with_reducible rfl))); (try simp only [Act.put, zF, zG, zH]))
    (refine sq_val (v := ?v25) (by simp only [zA, zB, zC]; rfl) ?hw25 ?hy25 ?hn25; (case hw25 => rfl); (case hy25 => (go_simp; (try with_reducible rfl))); (try simp only [Act.put, zF, zG, zH]))
    (refine sq_store (X := ?X26) (Y := ?Y26) (w' := ?w26) (by simp only [zA, zB, zC]; rfl) ?hw26 rfl rfl ?hx26 ?hz26 ?hy26 ?hn26; (case hw26 => rfl); (case hx26 => (simp only [Act.eval, zD, zA, zB, zC, zE]; (try rfl))); (case hz26 => (simp only [Act.eval, zD, zA, zB, zC, zE]; (try rfl))); (case hy26 => (go_simp; (try with_reducible rfl))))
    (first | refine sq_set kp6 (fun wn kp6 mS => ?_) | refine sq_setCell kp6 (fun wn kp6 mS => ?_))
    refine sq_nil ?_
    replace kp6 : wn.heap[p6]? = some (.cells (mgx z b0 b1 0 none 0 0 key0 none 0 0 none 0 0) 43 (0, 0)) := by
      rw [kp6, mgx_h1]
    have HA := Lib.hid (TkA.modN HA0.out (by omega) HA.out mS)
    have HM := Lib.hid (HM.out.then mS (fun i hi e => by omega))
    replace kp2 := mS.at_ne kp2 h26
    clear mS
    obtain ⟨wc, rfl⟩ : ∃ wc : World, wc = wn := ⟨_, rfl⟩
    have HI := HI2
    clear HI2
    go_upto_region 11 with fail
    have hB := tbyte_c wc HA.out
    refine region_seq 5 rfl ?_
    simp only [List.range, List.range.loop]
    (refine sq_val (v := ?v27) (by simp only [zA, zB, zC]; rfl) ?hw27 ?hy27 ?hn27; (case hw27 => rfl); (case hy27 => (go_simp; (try with_reducible rfl))); (try simp only [Act.put, zF, zG, zH]))
    (refine sq_callT (by simp only [zA, zB, zC]; rfl) ?hw28 ?hy28 hB ?hout (fun vn wn hR => ?hret) (fun ch wn hR => ?hpan); (case hw28 => rfl); (case hy28 => (go_simp; (try (first | with_reducible rfl | (constructor <;> with_reducible rfl))))))
    case hout => exact fun w' h => h.noOut
    case hpan => exact hR.noPan.elim
    case hret =>
    obtain ⟨v9, b2, k9, e9, hv9, rfl, hT, hA, hm⟩ := hR
    cases hv9
    have HI2 := Lib.hid (HI.out.step hT (NE.byte _ _))
    have HA := Lib.hid hA
    have HM := Lib.hid (HM.out.then hm (fun i hi e => by omega))
    replace kp2 := hm.at_ne kp2 h2p
    replace kp6 := hm.at_ne kp6 h6p
    clear hB hT hA hm HI
    (try simp only [Act.put, zF, zG, zH])
    obtain ⟨w4, rfl⟩ : ∃ w4 : World, w4 = wn := ⟨_, rfl⟩
    (refine sq_val (v := ?v29) (by simp only [zA, zB, zC]; rfl) ?hw29 ?hy29 ?hn29; (case hw29 => rfl); (case hy29 => (go_simp; (try with_reducible rfl))); (try simp only [Act.put, zF, zG, zH]))
    (refine sq_val (v := ?v30) (by simp only [zA, zB, zC]; rfl) ?hw30 ?hy30 ?hn30; (case hw30 => rfl); (case hy30 => (go_simp; (try with_reducible rfl))); (try simp only [Act.put, zF, zG, zH]))
    (refine sq_store (X := ?X31) (Y := ?Y31) (w' := ?w31) (by simp only [zA, zB, zC]; rfl) ?hw31 rfl rfl ?hx31 ?hz31 ?hy31 ?hn31; (case hw31 => rfl); (case hx31 => (simp only [Act.eval, zD, zA, zB, zC, zE]; (try rfl))); (case hz31 => (simp only [Act.eval, zD, zA, zB, zC, zE]; (try rfl))); (case hy31 => (go_simp; (try with_reducible rfl))))
    (first | refine sq_set kp6 (fun wn kp6 mS => ?_) | refine sq_setCell kp6 (fun wn kp6 mS => ?_))
    refine sq_nil ?_
    replace kp6 : wn.heap[p6]? = some (.cells (mgx z b0 b1 b2 none 0 0 key0 none 0 0 none 0 0) 43 (0, 0)) := by
      rw [kp6, mgx_h2]
    have HA := Lib.hid (TkA.modN HA0.out (by omega) HA.out mS)
    have HM := Lib.hid (HM.out.then mS (fun i hi e => by omega))
    replace kp2 := mS.at_ne kp2 h26
    clear mS
    obtain ⟨wc, rfl⟩ : ∃ wc : World, wc = wn := ⟨_, rfl⟩
    have HI := HI2
    clear HI2
    go_wp2_with fail
    go_at_call 93
    refine (tshort_c _ HA.out).mono ?_
    rintro en w5 ⟨v9, n, k5, e5, rfl, ⟨rfl, hn5⟩, hT, hA, hm⟩
    obtain ⟨G, HG, HGF⟩ : ∃ G, Hid (Inv (pMsg l 0) e5 (pBind (pMore [] (pRep (pKey l) (n - 0) k5)) G)) ∧ Hid (G = _) := by
      obtain ⟨G, h1, h2⟩ := HI.out.nm
      exact ⟨G, Lib.hid (h1.all0 hT), Lib.hid h2⟩
    have HA := Lib.hid hA
    have HM := Lib.hid (HM.out.then hm (fun i hi e => by omega))
    replace kp2 := hm.at_ne kp2 h2p
    replace kp6 := hm.at_ne kp6 h6p
    clear hT hA hm HI
    go_wp2_with fail
    go_loopw [9] (fun s9 ws => ∃ (i kk ee c1 : Nat) (a1 : Option Addr) (L : List Key), i ≤ n ∧ s9 = .int .i64 (i : Int) ∧ Hid (L.length = i) ∧ Hid (SlOwn kc 32 153 ws w.heap.size (.slice a1 i c1) L) ∧ Hid (TkA p16 a l c kk ee ws) ∧ Hid (Mod (fun _ => False) w ws) ∧ Hid (Inv (pMsg l 0) ee (pBind (pMore L (pRep (pKey l) (n - i) kk)) G)) ∧ ws.heap[p2]? = some (.cells zMsg 43 (0, 0)) ∧ ws.heap[p6]? = some (.cells (mgx z b0 b1 b2 a1 i c1 key0 none 0 0 none 0 0) 43 (0, 0))) (fun s9 _ => n - (intOf s9).toNat)
    case atStart => exact ⟨0, k5, e5, 0, none, [], by omega, rfl, Lib.hid rfl, Lib.hid (SlOwn.nil _ _), HA, HM, HG, kp2, kp6⟩
    case round =>
      obtain ⟨i, kk, ee, c1, a1, L, hi, rfl, HLi, HO, HA, HM, HI, kp2, kp6⟩ := hrel
      have kt := HA.out.1
      unfold tkC at kt
      rw [HLL.out] at kt
      go_upto_region 14 with fail
      go_cut [57] from 48 to 66 (fun s57 wx => ∃ z : Bool, s57 = .bool z ∧ Hid (z = true ↔ (i < n ∧ ee = 0)) ∧ wx = wr)
      case first =>
        as_aux_lemma =>
        by_cases hlt : i < n
        · have hd := decide_eq_true hlt
          by_cases he : ee = 0
          · have he0 : ((ee : Int) == 0) = true := by simpa using he
            go_wp2_with fail
            go_meet
            case rel => exact ⟨true, rfl, Lib.hid ⟨fun _ => ⟨hlt, he⟩, fun _ => rfl⟩, rfl⟩
          · have he0 : ((ee : Int) == 0) = false := by simpa using he
            go_wp2_with fail
            go_meet
            case rel => exact ⟨false, rfl, Lib.hid ⟨fun h => (by cases h), fun h => absurd h.2 he⟩, rfl⟩
        · have hd := decide_eq_false hlt
          go_wp2_with fail
          go_meet
          case rel => exact ⟨false, rfl, Lib.hid ⟨fun h => (by cases h), fun h => absurd h.1 hlt⟩, rfl⟩
      case rest =>
      obtain ⟨zz, rfl, HZZ, rfl⟩ := hcut
      cases zz with
      | true =>
        as_aux_lemma =>
        obtain ⟨hlt, rfl⟩ := HZZ.out.1 rfl
        clear HZZ
        rw [← HLL.out] at kt
        go_upto_region 16 with fail
        have Lkp6 := lt_size kp6
        refine wp_epass (T0 := fun i => i = p16) (K := fun T w => T p16 ∧ w.heap[p16]? = some (.cells (tkC a l.length c kk 0) 207 (0, 0))) (κ := fun i => [0, 0, 0, 6, 3, 6, 0, 6].getD i 0) (υ := fun i => [[], [], [], [], [], [], [], []].getD i []) [0, 1, 2, 3, 4] [5, 6, 7] (by kernel_rfl) (by kernel_rfl) (Good.at p16 (.cells (tkC a l.length c kk 0) 207 (0, 0))).cl (⟨rfl, kt⟩) (fun i hi => by subst hi; exact lt_size kt) ?_
        have gK := Good.at p16 (.cells (tkC a l.length c kk 0) 207 (0, 0))
        (refine TG.v0 (v := ?v32) (by simp only [zA, zB, zC]; rfl) rfl ?hw32 (fun w1 => ?hy32) ?hn32; (case hw32 => rfl); (case hy32 => (go_simp; (try with_reducible rfl))); (try simp only [Act.put, zF, zG, zH]))
        (refine TG.load (v := ?v33) (p := ?p33) (by simp only [zA, zB, zC]; rfl) rfl ?hw33 rfl ?hx33 (fun wq hSq => ?hy33) ?hn33; (case hw33 => rfl); (case hx33 => (simp only [Act.eval, zD, zA, zB, zC, zE]; (try rfl))); (case hy33 => (have kp6q := hSq.at kp6 (by intro hT; first | exact hT | exact absurd hT (by assumption) | omega | (simp only at hT; omega)); go_simp; (try with_reducible rfl))); (try simp only [Act.put, zF, zG, zH]))
        (refine TG.v0 (v := ?v34) (by simp only [zA, zB, zC]; rfl) rfl ?hw34 (fun w1 => ?hy34) ?hn34; (case hw34 => rfl); (case hy34 => (go_simp; (try with_reducible rfl))); (try simp only [Act.put, zF, zG, zH]))
        (refine TG.callK (f := ?f35) (args := ?r35) (TkLd p16 a l c kk) (goodTkLd p16 a l c kk) (by simp only [zA, zB, zC]; rfl) rfl ?hw35 (fun w1 => ?hy35) (fun T wq kq ltq hSq ub => ?hsp35) ?hn35; (case hw35 => rfl); (case hy35 => (go_simp; (first | with_reducible rfl | (constructor <;> with_reducible rfl)))); (case hsp35 => (have kp6q := hSq.at kp6 (by intro hT; first | exact hT | exact absurd hT (by assumption) | omega | (simp only at hT; omega)); exact keyL ⟨kq.2, HA.out.2.1.modB hSq HA.out.2.2.2.2.2.1, HA.out.2.2⟩ kq.1)); rintro v35 ⟨wI, TI, hI⟩; replace gK := (goodTkLd p16 a l c kk) v35; (obtain ⟨x, _, _, rfl, _⟩ := hI.k); (try clear hI TI wI); (try simp only [Act.put, zF, zG, zH]))
        (refine TG.bslice (by simp only [zA, zB, zC]; rfl) rfl ?hw36 rfl rfl ?hx36 (bsKeyR x) (fun p64 hp64 _ => ?hn36); (case hw36 => rfl); (case hx36 => (simp only [List.map_toArray, List.map_cons, List.map_nil, Act.eval, zD, zA, zB, zC, zE]; (try rfl))); (try simp only [Act.put, zF, zG, zH]))
        refine TG.nil (fun w7 ⟨TR, hr⟩ => ?_)
        replace kp6 := hr.mod.at kp6 (by intro hT; first | exact hT | exact absurd hT (by assumption) | omega | (simp only at hT; omega))
        have kp64 := hr.box p64 _ (by first | exact Bx.set_same _ _ _ | (simp only [Bx.set_same]; rfl)); dsimp only [Value.cells] at kp64; obtain ⟨gp64, nTp64, kp64⟩ := kp64
        clear gK
        obtain ⟨x2, k', e', hx2, hTk, hle, hT16, kt2⟩ := hr.k
        obtain rfl : x = x2 := kc_inj (by injection hx2)
        have m7 := hr.mod
        have hO7 := HO.out.mod m7 (own_ne HO.out HA.out.1 (by decide))
        have hLi := HLi.out
        have hM7 := HM.out.then m7 (fun i hi e => by omega)
        obtain ⟨v8, w8, hap, hO8, m8, hn8⟩ := SlOwn.append keysT (q := [x]) (c := 1) hO7 (SlAt.one kp64 x rfl (kc_size _)) (by simp only [List.length_singleton]; omega) (by decide) hM7.size 37
        obtain ⟨a8, c8, rfl, -, -⟩ := hO8.at keysT
        have hlen : (L ++ [x]).length = i + 1 := by rw [List.length_append, hLi]; rfl
        rw [hlen] at hap hO8
        have hM8 := hM7.then m8 (fun j hj e => by have := (hO7.lt j e).1; omega)
        have kt8 := m8.at kt2 (fun e => own_ne hO7 kt2 (by decide) _ e rfl)
        have HA8 : Hid (TkA p16 a l c k' e' w8) := Lib.hid ⟨kt8, HL.out.1.mod0 hM8, hle, HA.out.2.2.2⟩
        have HM8 := Lib.hid hM8
        have HO8 := Lib.hid (And.intro hO8 hlen)
        replace kp2 := m8.at (m7.at_ne kp2 h2p) (fun e => own_ne hO7 (m7.at_ne kp2 h2p) (by decide) _ e rfl)
        replace kp6 := m8.at kp6 (fun e => own_ne hO7 kp6 (by decide) _ e rfl)
        have HI8 := Lib.hid (HI.out.rep hlt hTk (NE.key _ _))
        have HN6 := Lib.hid (own_ne HO8.out.1 kp6 (by decide))
        clear hr hTk m7 m8 hO7 hM7 hM8 hO8 hn8 hlen kt2 kt8 kt hx2 hT16 kp64 gp64 hLi
        refine TE.step (by simp only [zA, zB, zC]; rfl) rfl ?_
        (refine eff_append (by simp only [zA, zB, zC]; rfl) ?hw37 rfl ?hx37 ?hz37 hap ?hn37; (case hw37 => rfl); (case hx37 => (simp only [Act.eval, zD, zA, zB, zC, zE]; (try rfl))); (case hz37 => (simp only [Act.eval, zD, zA, zB, zC, zE]; (try rfl))); (try simp only [Act.put, zF, zG, zH]))
        (refine TE.val0 (v := ?v38) (by simp only [zA, zB, zC]; rfl) ?hw38 (fun w1 => ?hy38) ?hn38; (case hw38 => rfl); (case hy38 => (go_simp; (try with_reducible rfl))); (try simp only [Act.put, zF, zG, zH]))
        refine TE.step (by simp only [zA, zB, zC]; rfl) rfl ?_
        (refine eff_store (X := ?X39) (Y := ?Y39) (w' := ?w39) (by simp only [zA, zB, zC]; rfl) ?hw39 rfl ?hx39 ?hz39 ?hy39 ?hn39; (case hw39 => rfl); (case hx39 => (simp only [Act.eval, zD, zA, zB, zC, zE]; (try rfl))); (case hz39 => (simp only [Act.eval, zD, zA, zB, zC, zE]; (try rfl))); (case hy39 => (go_simp; (try with_reducible rfl))))
        (first | refine TE.nil_set kp6 (fun wn kp6 mS => ?_) | refine TE.nil_setCell kp6 (fun wn kp6 mS => ?_))
        replace kp6 : wn.heap[p6]? = some (.cells (mgx z b0 b1 b2 a8 (i + 1) c8 key0 none 0 0 none 0 0) 43 (0, 0)) := by
          rw [kp6, mgx_ks]
        have HA9 := Lib.hid (TkA.modN HA0.out (by omega) HA8.out mS)
        have HM9 := Lib.hid (HM8.out.then mS (fun i hi e => by omega))
        have HO9 := Lib.hid (HO8.out.1.mod mS HN6.out)
        replace kp2 := mS.at_ne kp2 h26
        clear mS
        go_wp2_with fail
        go_roundw
        case rel => exact ⟨i + 1, k', e', c8, a8, L ++ [x], by omega, by go_num, Lib.hid HO8.out.2, HO9, HA9, HM9, HI8, kp2, kp6⟩
        case measure => simp [intOf]; omega
      | false =>
        have hdn := HI.out.done (by
          by_cases h0 : ee = 0
          · exact .inl (by have := mt (fun h => HZZ.out.2 ⟨h, h0⟩) (by simp : ¬ (false = true)); omega)
          · exact .inr h0)
        rw [HGF.out] at hdn
        have HI2 := Lib.hid hdn
        clear hdn HI HG HGF HZZ kt
        have HKS := Lib.hid (And.intro HLi.out HO.out)
        obtain ⟨nk, hnk⟩ : ∃ nk, i = nk := ⟨_, rfl⟩
        subst hnk
        clear HO HLi hi
        go_upto_region 17 with fail
        have hB := tkey_c _ HA.out
        refine region_seq 4 rfl ?_
        simp only [List.range, List.range.loop]
        (refine sq_val (v := ?v40) (by simp only [zA, zB, zC]; rfl) ?hw40 ?hy40 ?hn40; (case hw40 => rfl); (case hy40 => (go_simp; (try with_reducible rfl))); (try simp only [Act.put, zF, zG, zH]))
        (refine sq_callT (by simp only [zA, zB, zC]; rfl) ?hw41 ?hy41 hB ?hout (fun vn wn hR => ?hret) (fun ch wn hR => ?hpan); (case hw41 => rfl); (case hy41 => (go_simp; (try (first | with_reducible rfl | (constructor <;> with_reducible rfl))))))
        case hout => exact fun w' h => h.noOut
        case hpan => exact hR.noPan.elim
        case hret =>
        obtain ⟨v9, rc, k6, e6, hv9, rfl, hT, hA, hm⟩ := hR
        cases hv9
        have HI := Lib.hid (HI2.out.step hT (NE.key _ _))
        have HKS1 := Lib.hid (And.intro HKS.out.1 (HKS.out.2.mod hm (own_ne HKS.out.2 HA.out.1 (by decide))))
        have HA := Lib.hid hA
        have HM := Lib.hid (HM.out.then hm (fun i hi e => by omega))
        replace kp2 := hm.at_ne kp2 h2p
        replace kp6 := hm.at_ne kp6 h6p
        clear hB hT hA hm HI2 HKS
        (try simp only [Act.put, zF, zG, zH])
        obtain ⟨w4, rfl⟩ : ∃ w4 : World, w4 = wn := ⟨_, rfl⟩
        have HN6 := Lib.hid (own_ne HKS1.out.2 kp6 (by decide))
        (refine sq_val (v := ?v42) (by simp only [zA, zB, zC]; rfl) ?hw42 ?hy42 ?hn42; (case hw42 => rfl); (case hy42 => (go_simp; (try with_reducible rfl))); (try simp only [Act.put, zF, zG, zH]))
        (refine sq_store (X := ?X43) (Y := ?Y43) (w' := ?w43) (by simp only [zA, zB, zC]; rfl) ?hw43 rfl rfl ?hx43 ?hz43 ?hy43 ?hn43; (case hw43 => rfl); (case hx43 => (simp only [Act.eval, zD, zA, zB, zC, zE]; (try rfl))); (case hz43 => (simp only [Act.eval, zD, zA, zB, zC, zE]; (try rfl))); (case hy43 => (go_simp; (try with_reducible rfl))))
        (first | refine sq_set kp6 (fun wn kp6 mS => ?_) | refine sq_setCell kp6 (fun wn kp6 mS => ?_))
        refine sq_nil ?_
        replace kp6 : wn.heap[p6]? = some (.cells (mgx z b0 b1 b2 a1 i c1 rc none 0 0 none 0 0) 43 (0, 0)) := by
          rw [kp6]
          first | rw [mgx_rc] | simp [mgx_rc]
        have HML : Hid (MsgL w.heap.size wn (mkR z b0 b1 b2 ⟨a1, L, c1⟩ rc ⟨none, [], 0⟩ ⟨none, [], 0⟩)) := Lib.hid ⟨by
          rw [show (mkR z b0 b1 b2 ⟨a1, L, c1⟩ rc ⟨none, [], 0⟩ ⟨none, [], 0⟩).ks = ⟨a1, L, c1⟩ from rfl]
          simp only
          rw [HKS1.out.1]
          exact HKS1.out.2.mod mS HN6.out, ⟨SlOwn.nil _ _, fun _ h => (by cases h)⟩, SlOwn.nil _ _, fun _ h => (by cases h)⟩
        have HLk := Lib.hid HKS1.out.1
        have HA := Lib.hid (TkA.modN HA0.out (by omega) HA.out mS)
        have HM := Lib.hid (HM.out.then mS (fun i hi e => by omega))
        replace kp2 := mS.at_ne kp2 h26
        clear mS HN6 HKS1
        obtain ⟨w5, rfl⟩ : ∃ w5 : World, w5 = wn := ⟨_, rfl⟩
        go_wp2_with fail
        go_at_call 93
        refine (tshort_c _ HA.out).mono ?_
        rintro en w6 ⟨v9, n2, k7, e7, rfl, ⟨rfl, hn7⟩, hT, hA, hm⟩
        obtain ⟨G, HG, HGF⟩ : ∃ G, Hid (Inv (pMsg l 0) e7 (pBind (pMore [] (pRep (pInstr l) (n2 - 0) k7)) G)) ∧ Hid (G = _) := by
          obtain ⟨G, h1, h2⟩ := HI.out.nm
          exact ⟨G, Lib.hid (h1.all0 hT), Lib.hid h2⟩
        have HML := Lib.hid (HML.out.mod hm (fun g C E hk hE h => two_ne HA.out.1 kp6 g C E hk hE (.inl h)))
        have HA := Lib.hid hA
        have HM := Lib.hid (HM.out.then hm (fun i hi e => by omega))
        replace kp2 := hm.at_ne kp2 h2p
        replace kp6 := hm.at_ne kp6 h6p
        clear hT hA hm HI
        go_wp2_with fail
        go_loopw [10] (fun s10 ws => ∃ (i2 kk ee c2 : Nat) (a2 : Option Addr) (L2 : List InR), i2 ≤ n2 ∧ s10 = .int .i64 (i2 : Int) ∧ Hid (L2.length = i2) ∧ Hid (MsgL w.heap.size ws (mkR z b0 b1 b2 ⟨a1, L, c1⟩ rc ⟨a2, L2, c2⟩ ⟨none, [], 0⟩)) ∧ Hid (TkA p16 a l c kk ee ws) ∧ Hid (Mod (fun _ => False) w ws) ∧ Hid (Inv (pMsg l 0) ee (pBind (pMore (L2.map inP) (pRep (pInstr l) (n2 - i2) kk)) G)) ∧ ws.heap[p2]? = some (.cells zMsg 43 (0, 0)) ∧ ws.heap[p6]? = some (.cells (mgx z b0 b1 b2 a1 i c1 rc a2 i2 c2 none 0 0) 43 (0, 0))) (fun s10 _ => n2 - (intOf s10).toNat)
        case atStart => exact ⟨0, k7, e7, 0, none, [], by omega, rfl, Lib.hid rfl, HML, HA, HM, HG, kp2, kp6⟩
        case round =>
          obtain ⟨i2, kk, ee, c2, a2, L2, hi, rfl, HLi, HML, HA, HM, HI, kp2, kp6⟩ := hrel
          have kt := HA.out.1
          unfold tkC at kt
          rw [HLL.out] at kt
          go_upto_region 20 with fail
          go_cut [81] from 72 to 102 (fun s81 wx => ∃ z : Bool, s81 = .bool z ∧ Hid (z = true ↔ (i2 < n2 ∧ ee = 0)) ∧ wx = wr)
          case first =>
            as_aux_lemma =>
            by_cases hlt : i2 < n2
            · have hd := decide_eq_true hlt
              by_cases he : ee = 0
              · have he0 : ((ee : Int) == 0) = true := by simpa using he
                go_wp2_with fail
                go_meet
                case rel => exact ⟨true, rfl, Lib.hid ⟨fun _ => ⟨hlt, he⟩, fun _ => rfl⟩, rfl⟩
              · have he0 : ((ee : Int) == 0) = false := by simpa using he
                go_wp2_with fail
                go_meet
                case rel => exact ⟨false, rfl, Lib.hid ⟨fun h => (by cases h), fun h => absurd h.2 he⟩, rfl⟩
            · have hd := decide_eq_false hlt
              go_wp2_with fail
              go_meet
              case rel => exact ⟨false, rfl, Lib.hid ⟨fun h => (by cases h), fun h => absurd h.1 hlt⟩, rfl⟩
          case rest =>
          obtain ⟨zz, rfl, HZZ, rfl⟩ := hcut
          cases zz with
          | true =>
            as_aux_lemma =>
            obtain ⟨hlt, rfl⟩ := HZZ.out.1 rfl
            clear HZZ kt
            have HTW := Lib.hid (two_ne HA.out.1 kp6)
            go_upto_region 22 with fail
            have hB := tbyte_c _ HA.out
            refine region_seq 5 rfl ?_
            simp only [List.range, List.range.loop]
            (refine sq_val (v := ?v44) (by simp only [zA, zB, zC]; rfl) ?hw44 ?hy44 ?hn44; (case hw44 => rfl); (case hy44 => (go_simp; (try with_reducible rfl))); (try simp only [Act.put, zF, zG, zH]))
            (refine sq_callT (by simp only [zA, zB, zC]; rfl) ?hw45 ?hy45 hB ?hout (fun vn wn hR => ?hret) (fun ch wn hR => ?hpan); (case hw45 => rfl); (case hy45 => (go_simp; (try (first | with_reducible rfl | (constructor <;> with_reducible rfl))))))
            case hout => exact fun w' h => h.noOut
            case hpan => exact hR.noPan.elim
            case hret =>
            obtain ⟨v9, q, k8, e8, hv9, rfl, hT, hA, hm⟩ := hR
            cases hv9
            have HT1 := Lib.hid hT
            have HA := Lib.hid hA
            have HW := Lib.hid (hm.mono (T := fun i => i = p16 ∨ i = p6) (fun i _ h => .inl h))
            replace kp2 := hm.at_ne kp2 h2p
            replace kp6 := hm.at_ne kp6 h6p
            clear hB hT hA hm
            (try simp only [Act.put, zF, zG, zH])
            obtain ⟨w7, rfl⟩ : ∃ w7 : World, w7 = wn := ⟨_, rfl⟩
            have hb := bInI q
            (refine sq_bldS (by simp only [zA, zB, zC]; rfl) ?hw46 rfl ?hx46 (hb _) ?hn46; (case hw46 => rfl); (case hx46 => (simp only [List.map_toArray, List.map_cons, List.map_nil, Act.eval, zD, zA, zB, zC, zE]; (try rfl))); (try simp only [Act.put, zF, zG, zH]))
            (refine sq_alloc (by simp only [zA, zB, zC]; rfl) ?hw47 rfl alIn (fun p11 wn gp11 kp11 mp11 => ?hn47); (case hw47 => rfl); (try simp only [Act.put, zF, zG, zH]))
            (refine sq_store (X := ?X48) (Y := ?Y48) (w' := ?w48) (by simp only [zA, zB, zC]; rfl) ?hw48 rfl rfl ?hx48 ?hz48 ?hy48 ?hn48; (case hw48 => rfl); (case hx48 => (simp only [Act.eval, zD, zA, zB, zC, zE]; (try rfl))); (case hz48 => (simp only [Act.eval, zD, zA, zB, zC, zE]; (try rfl))); (case hy48 => (go_simp; (try with_reducible rfl))))
            (first | refine sq_set kp11 (fun wn kp11 mS => ?_) | refine sq_setCell kp11 (fun wn kp11 mS => ?_))
            refine sq_nil ?_
            replace kp11 : wn.heap[p11]? = some (.cells (inr ⟨q, ⟨none, [], 0⟩, ⟨none, [], 0⟩⟩) 155 (0, 0)) := kp11
            have hz6 := lt_size kp6
            have hz2 := lt_size kp2
            have hz16 := lt_size HA.out.1
            have hne : p2 ≠ p11 ∧ p6 ≠ p11 ∧ p16 ≠ p11 := by omega
            have hz11r := Nat.le_trans HW.out.size (Nat.le_of_eq gp11)
            have hz11 : w.heap.size ≤ p11 := by have := HM.out.size; have := HW.out.size; omega
            have HW := Lib.hid ((HW.out.then0 mp11).then mS (fun i hi e => by have := HW.out.size; omega))
            have HA := Lib.hid ((HA.out.mod0 mp11).modQ mS hne.2.2 (fun x e => by have := HL.out.2.2.2.2 x e; omega))
            replace kp2 := mS.at_ne (mp11.at0 kp2) hne.1
            replace kp6 := mS.at_ne (mp11.at0 kp6) hne.2.1
            clear mS mp11 gp11 hb hz6 hz2 hz16
            obtain ⟨w8, rfl⟩ : ∃ w8 : World, w8 = wn := ⟨_, rfl⟩
            go_upto_region 23 with fail
            have hB := tshort_c _ HA.out
            refine region_seq 6 rfl ?_
            simp only [List.range, List.range.loop]
            (refine sq_val (v := ?v49) (by simp only [zA, zB, zC]; rfl) ?hw49 ?hy49 ?hn49; (case hw49 => rfl); (case hy49 => (go_simp; (try with_reducible rfl))); (try simp only [Act.put, zF, zG, zH]))
            (refine sq_val (v := ?v50) (by simp only [zA, zB, zC]; rfl) ?hw50 ?hy50 ?hn50; (case hw50 => rfl); (case hy50 => (go_simp; (try with_reducible rfl))); (try simp only [Act.put, zF, zG, zH]))
            (refine sq_callT (by simp only [zA, zB, zC]; rfl) ?hw51 ?hy51 hB ?hout (fun vn wn hR => ?hret) (fun ch wn hR => ?hpan); (case hw51 => rfl); (case hy51 => (go_simp; (try (first | with_reducible rfl | (constructor <;> with_reducible rfl))))))
            case hout => exact fun w' h => h.noOut
            case hpan => exact hR.noPan.elim
            case hret =>
            obtain ⟨v9, nn, k9, e9, hv9, ⟨rfl, hnb⟩, hT, hA, hm⟩ := hR
            cases hv9
            have HTs := Lib.hid hT
            have HWa := Lib.hid (HW.out.trans (hm.mono (T := fun i => i = p16 ∨ i = p6) (fun i _ h => .inl h)))
            have hyt : ∀ g C, w8.heap[g]? = some (.cells C 5 (0, 0)) → ¬ g = p16 := fun g C hg => ty_ne HA.out.1 hg (by decide)
            skip
            replace kp2 := hm.at_ne kp2 h2p
            replace kp6 := hm.at_ne kp6 h6p
            replace kp11 := hm.at_ne kp11 hne.2.2.symm
            have HAa := Lib.hid hA
            clear hB hT hA hm hyt
            (try simp only [Act.put, zF, zG, zH])
            have hB := tbytes_c nn _ HAa.out (by omega)
            obtain ⟨w7, rfl⟩ : ∃ w7 : World, w7 = wn := ⟨_, rfl⟩
            (refine sq_callT (by simp only [zA, zB, zC]; rfl) ?hw52 ?hy52 hB ?hout (fun vn wn hR => ?hret) (fun ch wn hR => ?hpan); (case hw52 => rfl); (case hy52 => (go_simp; (try (first | with_reducible rfl | (constructor <;> with_reducible rfl))))))
            case hout => exact fun w' h => h.noOut
            case hpan => exact hR.noPan.elim
            case hret =>
            obtain ⟨v9, x1, k8, e8, hv9, ⟨hO, hx⟩, hT, hA, hm⟩ := hR
            cases hv9
            have HT2 := Lib.hid (HTs.out.list hT)
            obtain ⟨ax1, cx1, rfl, -, -⟩ := hO.at bytesT
            have hwb : w.heap.size ≤ w7.heap.size := by have := HM.out.size; have := HWa.out.size; omega
            have HY1 := Lib.hid (YAt.of hO hwb)
            have HWb := Lib.hid (HWa.out.trans (hm.mono (T := fun i => i = p16 ∨ i = p6) (fun i _ h => .inl h)))
            have hyt : ∀ g C, w7.heap[g]? = some (.cells C 5 (0, 0)) → ¬ g = p16 := fun g C hg => ty_ne HAa.out.1 hg (by decide)
            skip
            replace kp2 := hm.at_ne kp2 h2p
            replace kp6 := hm.at_ne kp6 h6p
            replace kp11 := hm.at_ne kp11 hne.2.2.symm
            have HAb := Lib.hid hA
            have hk11 := kp11
            clear hB hT hA hm hyt hO hx HTs HWa HAa HW HA
            (try simp only [Act.put, zF, zG, zH])
            obtain ⟨w9, rfl⟩ : ∃ w9 : World, w9 = wn := ⟨_, rfl⟩
            have H11 := Lib.hid kp11
            (refine sq_val (v := ?v53) (by simp only [zA, zB, zC]; rfl) ?hw53 ?hy53 ?hn53; (case hw53 => rfl); (case hy53 => (go_simp; (try with_reducible rfl))); (try simp only [Act.put, zF, zG, zH]))
            (refine sq_store (X := ?X54) (Y := ?Y54) (w' := ?w54) (by simp only [zA, zB, zC]; rfl) ?hw54 rfl rfl ?hx54 ?hz54 ?hy54 ?hn54; (case hw54 => rfl); (case hx54 => (simp only [Act.eval, zD, zA, zB, zC, zE]; (try rfl))); (case hz54 => (simp only [Act.eval, zD, zA, zB, zC, zE]; (try rfl))); (case hy54 => (go_simp; (try with_reducible rfl))))
            (first | refine sq_set kp11 (fun wn kp11 mS => ?_) | refine sq_setCell kp11 (fun wn kp11 mS => ?_))
            refine sq_nil ?_
            replace kp11 : wn.heap[p11]? = some (.cells (inr ⟨q, ⟨ax1, x1, cx1⟩, ⟨none, [], 0⟩⟩) 155 (0, 0)) := by
              rw [kp11]
              exact congrArg _ (congrArg (fun z => Obj.cells z 155 (0, 0)) (inr_a _ _ _ rfl))
            have hyt : ∀ g C, w9.heap[g]? = some (.cells C 5 (0, 0)) → ¬ g = p11 := fun g C hg => ty_ne H11.out hg (by decide)
            have HY1 := Lib.hid (HY1.out.mod mS hyt)
            skip
            have HW := Lib.hid (HWb.out.then mS (fun i hi e => by omega))
            have HA := Lib.hid (HAb.out.modQ mS hne.2.2 (fun x e => by have := HL.out.2.2.2.2 x e; omega))
            replace kp2 := mS.at_ne kp2 hne.1
            replace kp6 := mS.at_ne kp6 hne.2.1
            clear mS hyt H11 HWb HAb hk11
            obtain ⟨w8, rfl⟩ : ∃ w8 : World, w8 = wn := ⟨_, rfl⟩
            go_upto_region 24 with fail
            have hB := tshort_c _ HA.out
            refine region_seq 6 rfl ?_
            simp only [List.range, List.range.loop]
            (refine sq_val (v := ?v55) (by simp only [zA, zB, zC]; rfl) ?hw55 ?hy55 ?hn55; (case hw55 => rfl); (case hy55 => (go_simp; (try with_reducible rfl))); (try simp only [Act.put, zF, zG, zH]))
            (refine sq_val (v := ?v56) (by simp only [zA, zB, zC]; rfl) ?hw56 ?hy56 ?hn56; (case hw56 => rfl); (case hy56 => (go_simp; (try with_reducible rfl))); (try simp only [Act.put, zF, zG, zH]))
            (refine sq_callT (by simp only [zA, zB, zC]; rfl) ?hw57 ?hy57 hB ?hout (fun vn wn hR => ?hret) (fun ch wn hR => ?hpan); (case hw57 => rfl); (case hy57 => (go_simp; (try (first | with_reducible rfl | (constructor <;> with_reducible rfl))))))
            case hout => exact fun w' h => h.noOut
            case hpan => exact hR.noPan.elim
            case hret =>
            obtain ⟨v9, nn, k9, e9, hv9, ⟨rfl, hnb⟩, hT, hA, hm⟩ := hR
            cases hv9
            have HTs := Lib.hid hT
            have HWa := Lib.hid (HW.out.trans (hm.mono (T := fun i => i = p16 ∨ i = p6) (fun i _ h => .inl h)))
            have hyt : ∀ g C, w8.heap[g]? = some (.cells C 5 (0, 0)) → ¬ g = p16 := fun g C hg => ty_ne HA.out.1 hg (by decide)
            have HY1 := Lib.hid (HY1.out.mod hm hyt)
            replace kp2 := hm.at_ne kp2 h2p
            replace kp6 := hm.at_ne kp6 h6p
            replace kp11 := hm.at_ne kp11 hne.2.2.symm
            have HAa := Lib.hid hA
            clear hB hT hA hm hyt
            (try simp only [Act.put, zF, zG, zH])
            have hB := tbytes_c nn _ HAa.out (by omega)
            obtain ⟨w7, rfl⟩ : ∃ w7 : World, w7 = wn := ⟨_, rfl⟩
            (refine sq_callT (by simp only [zA, zB, zC]; rfl) ?hw58 ?hy58 hB ?hout (fun vn wn hR => ?hret) (fun ch wn hR => ?hpan); (case hw58 => rfl); (case hy58 => (go_simp; (try (first | with_reducible rfl | (constructor <;> with_reducible rfl))))))
            case hout => exact fun w' h => h.noOut
            case hpan => exact hR.noPan.elim
            case hret =>
            obtain ⟨v9, x2, k8, e8, hv9, ⟨hO, hx⟩, hT, hA, hm⟩ := hR
            cases hv9
            have HT3 := Lib.hid (HTs.out.list hT)
            obtain ⟨ax2, cx2, rfl, -, -⟩ := hO.at bytesT
            have hwb : w.heap.size ≤ w7.heap.size := by have := HM.out.size; have := HWa.out.size; omega
            have HY2 := Lib.hid (YAt.of hO hwb)
            have HWb := Lib.hid (HWa.out.trans (hm.mono (T := fun i => i = p16 ∨ i = p6) (fun i _ h => .inl h)))
            have hyt : ∀ g C, w7.heap[g]? = some (.cells C 5 (0, 0)) → ¬ g = p16 := fun g C hg => ty_ne HAa.out.1 hg (by decide)
            have HY1 := Lib.hid (HY1.out.mod hm hyt)
            replace kp2 := hm.at_ne kp2 h2p
            replace kp6 := hm.at_ne kp6 h6p
            replace kp11 := hm.at_ne kp11 hne.2.2.symm
            have HAb := Lib.hid hA
            have hk11 := kp11
            clear hB hT hA hm hyt hO hx HTs HWa HAa HW HA
            (try simp only [Act.put, zF, zG, zH])
            obtain ⟨w9, rfl⟩ : ∃ w9 : World, w9 = wn := ⟨_, rfl⟩
            have H11 := Lib.hid kp11
            (refine sq_val (v := ?v59) (by simp only [zA, zB, zC]; rfl) ?hw59 ?hy59 ?hn59; (case hw59 => rfl); (case hy59 => (go_simp; (try with_reducible rfl))); (try simp only [Act.put, zF, zG, zH]))
            (refine sq_store (X := ?X60) (Y := ?Y60) (w' := ?w60) (by simp only [zA, zB, zC]; rfl) ?hw60 rfl rfl ?hx60 ?hz60 ?hy60 ?hn60; (case hw60 => rfl); (case hx60 => (simp only [Act.eval, zD, zA, zB, zC, zE]; (try rfl))); (case hz60 => (simp only [Act.eval, zD, zA, zB, zC, zE]; (try rfl))); (case hy60 => (go_simp; (try with_reducible rfl))))
            (first | refine sq_set kp11 (fun wn kp11 mS => ?_) | refine sq_setCell kp11 (fun wn kp11 mS => ?_))
            refine sq_nil ?_
            replace kp11 : wn.heap[p11]? = some (.cells (inr ⟨q, ⟨ax1, x1, cx1⟩, ⟨ax2, x2, cx2⟩⟩) 155 (0, 0)) := by
              rw [kp11]
              exact congrArg _ (congrArg (fun z => Obj.cells z 155 (0, 0)) (inr_d _ _ _ rfl))
            have hyt : ∀ g C, w9.heap[g]? = some (.cells C 5 (0, 0)) → ¬ g = p11 := fun g C hg => ty_ne H11.out hg (by decide)
            have HY2 := Lib.hid (HY2.out.mod mS hyt)
            have HY1 := Lib.hid (HY1.out.mod mS hyt)
            have HW := Lib.hid (HWb.out.then mS (fun i hi e => by omega))
            have HA := Lib.hid (HAb.out.modQ mS hne.2.2 (fun x e => by have := HL.out.2.2.2.2 x e; omega))
            replace kp2 := mS.at_ne kp2 hne.1
            replace kp6 := mS.at_ne kp6 hne.2.1
            clear mS hyt H11 HWb HAb hk11
            obtain ⟨w8, rfl⟩ : ∃ w8 : World, w8 = wn := ⟨_, rfl⟩
            have HTA : Hid (Tk 0 (pInstr l kk) ⟨q, x1, x2⟩ k8 e8) := Lib.hid (by
              rw [pInstr_bind]
              exact HT1.out.bind (NE.byte _ _) (HT2.out.bind (NE.list _ _) (HT3.out.bind (NE.list _ _) Tk.pure)))
            clear HT1 HT2 HT3
            obtain ⟨r, hr⟩ : ∃ r : InR, r = ⟨q, ⟨ax1, x1, cx1⟩, ⟨ax2, x2, cx2⟩⟩ := ⟨_, rfl⟩
            rw [← hr] at kp11
            have HRR := Lib.hid hr
            clear hr
            have hbs := bsInR r
            go_upto_region 25 with fail
            refine region_seq 7 rfl ?_
            simp only [List.range, List.range.loop]
            (refine sq_val (v := ?v61) (by simp only [zA, zB, zC]; rfl) ?hw61 ?hy61 ?hn61; (case hw61 => rfl); (case hy61 => (go_simp; (try with_reducible rfl))); (try simp only [Act.put, zF, zG, zH]))
            (refine sq_load (v := ?v62) (p := ?p62) (by simp only [zA, zB, zC]; rfl) ?hw62 rfl ?hx62 ?hy62 ?hn62; (case hw62 => rfl); (case hx62 => (simp only [Act.eval, zD, zA, zB, zC, zE]; (try rfl))); (case hy62 => (go_simp; (try with_reducible rfl))); (try simp only [Act.put, zF, zG, zH]))
            (refine sq_load (v := ?v63) (p := ?p63) (by simp only [zA, zB, zC]; rfl) ?hw63 rfl ?hx63 ?hy63 ?hn63; (case hw63 => rfl); (case hx63 => (simp only [Act.eval, zD, zA, zB, zC, zE]; (try rfl))); (case hy63 => (go_simp; (try with_reducible rfl))); (try simp only [Act.put, zF, zG, zH]))
            (refine sq_new (by simp only [zA, zB, zC]; rfl) ?hw64 rfl ?hx64 (hbs _) (fun q100 wn gq100 kq100 mq100 => ?hn64); (case hw64 => rfl); (case hx64 => (simp only [List.map_toArray, List.map_cons, List.map_nil, Act.eval, zD, zA, zB, zC, zE]; (try rfl))); (try simp only [Act.put, zF, zG, zH]))
            have hLi := HLi.out
            have hML := HML.out.mod (HW.out.then0 mq100) HTW.out
            have hO2 : SlOwn inr 3 155 wn w.heap.size (.slice a2 L2.length c2) L2 := hML.2.1.1
            have hMq := (HM.out.then HW.out (fun i hi e => by omega)).then0 mq100
            obtain ⟨v8, w8', hap, hO8, m8, hn8⟩ := SlOwn.append instrT (q := [r]) (c := 1) hO2 (SlAt.one kq100 r rfl (inr_sz r)) (by show L2.length + _ ≤ _; simp only [List.length_singleton]; omega) (by decide) hMq.size 40
            obtain ⟨a8, c8, rfl, -, -⟩ := hO8.at instrT
            have hlen : (L2 ++ [r]).length = i2 + 1 := by rw [List.length_append, hLi]; rfl
            have hlo := hO2.lt
            have hy8 : ∀ g C, wn.heap[g]? = some (.cells C 5 (0, 0)) → ¬ (Value.slice a2 L2.length c2).ownBlock = some g := fun g C hg => own_ty (C := C) hO2 hg (by decide)
            have hML8 : MsgL w.heap.size w8' (mkR z b0 b1 b2 ⟨a1, L, c1⟩ rc ⟨a8, L2 ++ [r], c8⟩ ⟨none, [], 0⟩) := by
              refine ⟨hML.1.mod m8 (fun g hg => by obtain ⟨C, hk⟩ := own_blk2 hML.1 g hg; exact own_ty hO2 hk (by decide)), ⟨hO8, fun j hj => ?_⟩, SlOwn.nil _ _, fun _ h => (by cases h)⟩
              rcases List.mem_append.1 hj with hj | hj
              · exact ⟨(hML.2.1.2 j hj).1.mod m8 hy8, (hML.2.1.2 j hj).2.mod m8 hy8⟩
              · rw [List.mem_singleton] at hj
                subst hj
                rw [HRR.out]
                exact ⟨(HY1.out.mod mq100 (fun _ _ _ h => h)).mod m8 hy8, (HY2.out.mod mq100 (fun _ _ _ h => h)).mod m8 hy8⟩
            have hM8 := hMq.then m8 (fun j hj e => by have := (hlo j e).1; omega)
            have hA8 : TkA p16 a l c k8 e8 w8' := by
              have h1 := HA.out.mod0 mq100
              exact ⟨m8.at h1.1 (fun e => own_ne hO2 h1.1 (by decide) _ e rfl), HL.out.1.mod0 hM8, h1.2.2⟩
            replace kp2 := m8.at (mq100.at0 kp2) (fun e => own_ne hO2 (mq100.at0 kp2) (by decide) _ e rfl)
            replace kp6 := m8.at (mq100.at0 kp6) (fun e => own_ne hO2 (mq100.at0 kp6) (by decide) _ e rfl)
            have HI8 : Hid (Inv (pMsg l 0) e8 (pBind (pMore ((L2 ++ [r]).map inP) (pRep (pInstr l) (n2 - (i2 + 1)) k8)) G)) := Lib.hid (by
              have h1 := HI.out.rep hlt HTA.out (NE.instr _ _)
              rw [List.map_append, HRR.out]
              exact h1)
            have HTW8 := Lib.hid (two_ne hA8.1 kp6)
            have HF := Lib.hid (And.intro hML8 (And.intro hM8 (And.intro hA8 hlen)))
            have hap2 : (Builtin.append_ #[40, 40] 40 #[.slice a2 i2 c2, .slice (some ⟨q100, 0, none⟩) 1 1]).run Tryz.prog wn = .ok (.slice a8 (i2 + 1) c8) w8' := by
              have h1 := hap
              rw [hlen, hLi] at h1
              exact h1
            clear hap hML hO2 hMq hO8 m8 hn8 hlen hlo hy8 hML8 hM8 hA8 hLi mq100 kq100 gq100 hbs
            (refine sq_append (by simp only [zA, zB, zC]; rfl) ?hw65 rfl ?hx65 ?hz65 hap2 ?hn65; (case hw65 => rfl); (case hx65 => (simp only [Act.eval, zD, zA, zB, zC, zE]; (try rfl))); (case hz65 => (simp only [Act.eval, zD, zA, zB, zC, zE]; (try rfl))); (try simp only [Act.put, zF, zG, zH]))
            (refine sq_val (v := ?v66) (by simp only [zA, zB, zC]; rfl) ?hw66 ?hy66 ?hn66; (case hw66 => rfl); (case hy66 => (go_simp; (try with_reducible rfl))); (try simp only [Act.put, zF, zG, zH]))
            (refine sq_store (X := ?X67) (Y := ?Y67) (w' := ?w67) (by simp only [zA, zB, zC]; rfl) ?hw67 rfl rfl ?hx67 ?hz67 ?hy67 ?hn67; (case hw67 => rfl); (case hx67 => (simp only [Act.eval, zD, zA, zB, zC, zE]; (try rfl))); (case hz67 => (simp only [Act.eval, zD, zA, zB, zC, zE]; (try rfl))); (case hy67 => (go_simp; (try with_reducible rfl))))
            (first | refine sq_set kp6 (fun wn kp6 mS => ?_) | refine sq_setCell kp6 (fun wn kp6 mS => ?_))
            refine sq_nil ?_
            replace kp6 : wn.heap[p6]? = some (.cells (mgx z b0 b1 b2 a1 i c1 rc a8 (i2 + 1) c8 none 0 0) 43 (0, 0)) := by
              rw [kp6, mgx_ins]
            have HA9 := Lib.hid (HF.out.2.2.1.modQ mS h6p.symm (fun x e => by have := HL.out.2.2.2.2 x e; omega))
            have HM9 := Lib.hid (HF.out.2.1.then mS (fun i hi e => by omega))
            have HML9 := Lib.hid (HF.out.1.mod mS (fun g C E hk hE h => HTW8.out g C E hk hE (.inr h)))
            replace kp2 := mS.at_ne kp2 h26
            have HL9 := Lib.hid HF.out.2.2.2
            clear mS
            go_wp2_with fail
            go_roundw
            case rel => exact ⟨i2 + 1, k8, e8, c8, a8, L2 ++ [r], by omega, by go_num, HL9, HML9, HA9, HM9, HI8, kp2, kp6⟩
            case measure => simp [intOf]; omega
          | false =>
            have hdn := HI.out.done (by
              by_cases h0 : ee = 0
              · exact .inl (by have := mt (fun h => HZZ.out.2 ⟨h, h0⟩) (by simp : ¬ (false = true)); omega)
              · exact .inr h0)
            rw [HGF.out] at hdn
            have HI2 := Lib.hid hdn
            have HLj := Lib.hid HLi.out
            clear hdn HI HG HGF HZZ HLi
            cases z with
            | false =>
              have HI3 : Hid (Inv (pMsg l 0) ee (.ok (⟨false, b0, b1, b2, L, rc, L2.map inP, []⟩, kk))) := Lib.hid (by
                have h1 := HI2.out
                dsimp only at h1
                rw [if_neg (of_decide_eq_false HZ.out), HZ.out] at h1
                exact h1)
              have HMS : Hid (mgx false b0 b1 b2 a1 i c1 rc a2 i2 c2 none 0 0 = msr (mkR false b0 b1 b2 ⟨a1, L, c1⟩ rc ⟨a2, L2, c2⟩ ⟨none, [], 0⟩)) := Lib.hid (msr_mk HLk.out HLj.out rfl)
              go_upto_region 35 with fail
              by_cases he : ee = 0
              · subst he
                have hne : ((0 : Int) != 0) = false := rfl
                have HE : Hid (pMsg l 0 = _) := Lib.hid (HI3.out.1 rfl)
                have HKL := Lib.hid HA.out.2.2.1
                have nW : ¬ (fun i => i = p2) p16 := by simp only; omega
                have nW6 : ¬ (fun i => i = p2) p6 := by simp only; omega
                obtain ⟨X, hX⟩ : ∃ X, mgx false b0 b1 b2 a1 i c1 rc a2 i2 c2 none 0 0 = X := ⟨_, rfl⟩
                have hXs : X.size = 39 := by rw [← hX, mgx_size]
                have hXe : X.extract 0 39 = X := by rw [← hX, mgx_ext]
                have hXo : X.all (·.oneCell') = true := by rw [← hX]; exact mgx_one ..
                have HX := Lib.hid hX
                have HXO := Lib.hid (And.intro hXs hXo)
                rw [hX] at kp6
                clear hX hXo
                have hld : ∀ w', w'.heap[p6]? = some (.cells X 43 (0, 0)) → (Instr.loadAt 43 (.pointer (some ⟨p6, 0, none⟩))).run Tryz.prog w' = .ok (.agg X) w' := fun w' h => by rw [ldMsg, h]; simp [hXs, hXe]
                have HLD := Lib.hid hld
                clear hld hXs hXe
                go_upto_region 37 with fail
                have Lkt := lt_size kt
                have Lkp6 := lt_size kp6
                refine wp_gpass (T0 := fun i => i = p2) (K := fun T w => T p2 ∧ w.heap[p2]? = some (.cells zMsg 43 (0, 0))) (κ := fun i => [0, 0, 0, 0, 0, 6, 0, 0].getD i 0) (υ := fun i => [[], [], [], [], [], [], [], []].getD i []) [0, 1, 2, 3, 4, 5, 6, 7] (by kernel_rfl) (by kernel_rfl) (Good.at p2 (.cells zMsg 43 (0, 0))).cl (⟨rfl, kp2⟩) (fun i hi => by subst hi; exact lt_size kp2) ?_
                have gK := Good.at p2 (.cells zMsg 43 (0, 0))
                (refine TG.load (v := ?v68) (p := ?p68) (by simp only [zA, zB, zC]; rfl) rfl ?hw68 rfl ?hx68 (fun wq hSq => ?hy68) ?hn68; (case hw68 => rfl); (case hx68 => (simp only [Act.eval, zD, zA, zB, zC, zE]; (try rfl))); (case hy68 => (have ktq := hSq.at kt (by intro hT; first | exact hT | exact absurd hT (by assumption) | omega | (simp only at hT; omega)); have kp6q := hSq.at kp6 (by intro hT; first | exact hT | exact absurd hT (by assumption) | omega | (simp only at hT; omega)); exact HLD.out _ kp6q)); (try simp only [Act.put, zF, zG, zH]))
                (refine TG.v0 (v := ?v69) (by simp only [zA, zB, zC]; rfl) rfl ?hw69 (fun w1 => ?hy69) ?hn69; (case hw69 => rfl); (case hy69 => (go_simp; (try with_reducible rfl))); (try simp only [Act.put, zF, zG, zH]))
                (refine TG.v0 (v := ?v70) (by simp only [zA, zB, zC]; rfl) rfl ?hw70 (fun w1 => ?hy70) ?hn70; (case hw70 => rfl); (case hy70 => (go_simp; (try with_reducible rfl))); (try simp only [Act.put, zF, zG, zH]))
                (refine TG.v0 (v := ?v71) (by simp only [zA, zB, zC]; rfl) rfl ?hw71 (fun w1 => ?hy71) ?hn71; (case hw71 => rfl); (case hy71 => (go_simp; (try with_reducible rfl))); (try simp only [Act.put, zF, zG, zH]))
                (refine TG.load (v := ?v72) (p := ?p72) (by simp only [zA, zB, zC]; rfl) rfl ?hw72 rfl ?hx72 (fun wq hSq => ?hy72) ?hn72; (case hw72 => rfl); (case hx72 => (simp only [Act.eval, zD, zA, zB, zC, zE]; (try rfl))); (case hy72 => (have ktq := hSq.at kt (by intro hT; first | exact hT | exact absurd hT (by assumption) | omega | (simp only at hT; omega)); have kp6q := hSq.at kp6 (by intro hT; first | exact hT | exact absurd hT (by assumption) | omega | (simp only at hT; omega)); go_simp; (try with_reducible rfl))); (try simp only [Act.put, zF, zG, zH]))
                (refine TG.storeO (X := ?X73) (Y := ?Y73) (fun T w => T p2 ∧ w.heap[p2]? = some (.cells X 43 (0, 0))) (Good.at p2 (.cells X 43 (0, 0))) (by simp only [zA, zB, zC]; rfl) rfl ?hw73 rfl rfl ?hx73 ?hz73 (fun T wq kq => ?hy73) (fun _ => ?hn73); (case hw73 => rfl); (case hx73 => (simp only [Act.eval, zD, zA, zB, zC, zE]; (try rfl))); (case hz73 => (simp only [Act.eval, zD, zA, zB, zC, zE]; (try rfl))); (case hy73 => (obtain ⟨k1, k2⟩ := kq; refine ⟨setBlock wq p2 (.cells X 43 (0, 0)), ?_, (mod_set wq p2 _).mono (fun i _ e => by rw [e]; exact k1), k1, heap_setBlock wq _ (lt_size k2)⟩; exact run_store_box k2 (by rw [HXO.out.1]; kernel_rfl) (by rw [HXO.out.1, zMsg_size]) HXO.out.2)); replace gK := (Good.at p2 (.cells X 43 (0, 0))); (try simp only [Act.put, zF, zG, zH]))
                (refine TG.v0 (v := ?v74) (by simp only [zA, zB, zC]; rfl) rfl ?hw74 (fun w1 => ?hy74) ?hn74; (case hw74 => rfl); (case hy74 => (go_simp; (try with_reducible rfl))); (try simp only [Act.put, zF, zG, zH]))
                (refine TG.v0 (v := ?v75) (by simp only [zA, zB, zC]; rfl) rfl ?hw75 (fun w1 => ?hy75) ?hn75; (case hw75 => rfl); (case hy75 => (go_simp; (try with_reducible rfl))); (try simp only [Act.put, zF, zG, zH]))
                refine TG.nil (fun w9 ⟨TR, hr⟩ => ?_)
                replace kt := hr.mod.at kt (by intro hT; first | exact hT | exact absurd hT (by assumption) | omega | (simp only at hT; omega))
                replace kp6 := hr.mod.at kp6 (by intro hT; first | exact hT | exact absurd hT (by assumption) | omega | (simp only at hT; omega))
                clear gK
                have HF : Hid (w9.heap[p2]? = some (.cells X 43 (0, 0)) ∧ Mod (fun _ => False) w w9) := Lib.hid ⟨hr.k.2, HM.out.then hr.mod (fun i hi e => by omega)⟩
                have HMF := Lib.hid (HML.out.mod hr.mod (fun g C E hk hE e => ty_ne kp2 hk (by rcases hE with rfl | rfl | rfl | rfl <;> decide) e))
                clear hr kp2
                go_wp2_with fail
                refine bodyPost_ret (results_ctt rfl rfl (v1 := .agg X) (by rw [← HX.out]; exact ldMgx (by rw [HX.out]; exact HF.out.1))) rfl ?_
                unfold RgetP
                rw [HE.out]
                refine ⟨HF.out.2, _, ?_, HMF.out, rfl⟩
                show Ending.returned (.tuple #[.agg X, i64n kk, i64n 0]) = _
                rw [← HX.out, HMS.out]
              · have hne : ((ee : Int) != 0) = true := by simpa using he
                have HE : Hid (pMsg l 0 = .error ee) := Lib.hid (HI3.out.2 he)
                have nW : ¬ (fun i => i = p2) p16 := by simp only; omega
                have hb := bMsg0
                go_upto_region 36 with fail
                have Lkt := lt_size kt
                refine wp_gpass (T0 := fun i => i = p2) (K := fun T w => T p2 ∧ w.heap[p2]? = some (.cells zMsg 43 (0, 0))) (κ := fun i => [0, 0, 0, 0, 0, 6, 0, 0].getD i 0) (υ := fun i => [[], [], [], [], [], [], [], []].getD i []) [0, 1, 2, 3, 4, 5, 6, 7] (by kernel_rfl) (by kernel_rfl) (Good.at p2 (.cells zMsg 43 (0, 0))).cl (⟨rfl, kp2⟩) (fun i hi => by subst hi; exact lt_size kp2) ?_
                have gK := Good.at p2 (.cells zMsg 43 (0, 0))
                (refine TG.build (v := ?v76) (ps := ?p76) (by simp only [zA, zB, zC]; rfl) rfl ?hw76 rfl ?hx76 (fun w1 => ?hy76) ?hn76; (case hw76 => rfl); (case hx76 => (simp only [List.map_toArray, List.map_cons, List.map_nil, Act.eval, zD, zA, zB, zC, zE]; (try rfl))); (case hy76 => (rw [hb]; (try with_reducible rfl))); (try simp only [Act.put, zF, zG, zH]))
                (refine TG.v0 (v := ?v77) (by simp only [zA, zB, zC]; rfl) rfl ?hw77 (fun w1 => ?hy77) ?hn77; (case hw77 => rfl); (case hy77 => (go_simp; (try with_reducible rfl))); (try simp only [Act.put, zF, zG, zH]))
                (refine TG.v0 (v := ?v78) (by simp only [zA, zB, zC]; rfl) rfl ?hw78 (fun w1 => ?hy78) ?hn78; (case hw78 => rfl); (case hy78 => (go_simp; (try with_reducible rfl))); (try simp only [Act.put, zF, zG, zH]))
                (refine TG.v0 (v := ?v79) (by simp only [zA, zB, zC]; rfl) rfl ?hw79 (fun w1 => ?hy79) ?hn79; (case hw79 => rfl); (case hy79 => (go_simp; (try with_reducible rfl))); (try simp only [Act.put, zF, zG, zH]))
                (refine TG.load (v := ?v80) (p := ?p80) (by simp only [zA, zB, zC]; rfl) rfl ?hw80 rfl ?hx80 (fun wq hSq => ?hy80) ?hn80; (case hw80 => rfl); (case hx80 => (simp only [Act.eval, zD, zA, zB, zC, zE]; (try rfl))); (case hy80 => (have ktq := hSq.at kt (by intro hT; first | exact hT | exact absurd hT (by assumption) | omega | (simp only at hT; omega)); go_simp; (try with_reducible rfl))); (try simp only [Act.put, zF, zG, zH]))
                (refine TG.storeO (X := ?X81) (Y := ?Y81) (fun T w => T p2 ∧ w.heap[p2]? = some (.cells zMsg 43 (0, 0))) (Good.at p2 (.cells zMsg 43 (0, 0))) (by simp only [zA, zB, zC]; rfl) rfl ?hw81 rfl rfl ?hx81 ?hz81 (fun T wq kq => ?hy81) (fun _ => ?hn81); (case hw81 => rfl); (case hx81 => (simp only [Act.eval, zD, zA, zB, zC, zE]; (try rfl))); (case hz81 => (simp only [Act.eval, zD, zA, zB, zC, zE]; (try rfl))); (case hy81 => (obtain ⟨k1, k2⟩ := kq; refine ⟨setBlock wq p2 (.cells zMsg 43 (0, 0)), ?_, (mod_set wq p2 _).mono (fun i _ e => by rw [e]; exact k1), k1, heap_setBlock wq _ (lt_size k2)⟩; exact run_store_box k2 (by kernel_rfl) rfl zMsg_all)); replace gK := (Good.at p2 (.cells zMsg 43 (0, 0))); (try simp only [Act.put, zF, zG, zH]))
                (refine TG.v0 (v := ?v82) (by simp only [zA, zB, zC]; rfl) rfl ?hw82 (fun w1 => ?hy82) ?hn82; (case hw82 => rfl); (case hy82 => (go_simp; (try with_reducible rfl))); (try simp only [Act.put, zF, zG, zH]))
                (refine TG.v0 (v := ?v83) (by simp only [zA, zB, zC]; rfl) rfl ?hw83 (fun w1 => ?hy83) ?hn83; (case hw83 => rfl); (case hy83 => (go_simp; (try with_reducible rfl))); (try simp only [Act.put, zF, zG, zH]))
                refine TG.nil (fun w9 ⟨TR, hr⟩ => ?_)
                replace kt := hr.mod.at kt (by intro hT; first | exact hT | exact absurd hT (by assumption) | omega | (simp only at hT; omega))
                clear gK
                have HF : Hid (w9.heap[p2]? = some (.cells zMsg 43 (0, 0)) ∧ Mod (fun _ => False) w w9) := Lib.hid ⟨hr.k.2, HM.out.then hr.mod (fun i hi e => by omega)⟩
                clear hr kp2
                go_wp2_with fail
                refine bodyPost_ret (results_ctt rfl rfl (ldZM HF.out.1)) rfl ?_
                unfold RgetP
                rw [HE.out]
                exact ⟨HF.out.2, rfl⟩
            | true =>
              have HI := Lib.hid (show Inv (pMsg l 0) ee (pBind (pAll (pLook l) l kk) _) from by
                have h1 := HI2.out
                dsimp only at h1
                rw [if_pos (of_decide_eq_true HZ.out)] at h1
                exact h1)
              go_wp2_with fail
              go_at_call 93
              refine (tshort_c _ HA.out).mono ?_
              rintro en w6 ⟨v9, n3, q7, qe7, rfl, ⟨rfl, hn9⟩, hT, hA, hm⟩
              obtain ⟨G, HG, HGF⟩ : ∃ G, Hid (Inv (pMsg l 0) qe7 (pBind (pMore [] (pRep (pLook l) (n3 - 0) q7)) G)) ∧ Hid (G = _) := by
                obtain ⟨G, h1, h2⟩ := HI.out.nm
                exact ⟨G, Lib.hid (h1.all0 hT), Lib.hid h2⟩
              have HML := Lib.hid (HML.out.mod hm (fun g C E hk hE h => two_ne HA.out.1 kp6 g C E hk hE (.inl h)))
              have HA := Lib.hid hA
              have HM := Lib.hid (HM.out.then hm (fun i hi e => by omega))
              replace kp2 := hm.at_ne kp2 h2p
              replace kp6 := hm.at_ne kp6 h6p
              clear hT hA hm HI
              go_wp2_with fail
              go_loopw [12] (fun s12 ws => ∃ (i3 kk ee c3 : Nat) (a3 : Option Addr) (L3 : List LoR), i3 ≤ n3 ∧ s12 = .int .i64 (i3 : Int) ∧ Hid (L3.length = i3) ∧ Hid (MsgL w.heap.size ws (mkR true b0 b1 b2 ⟨a1, L, c1⟩ rc ⟨a2, L2, c2⟩ ⟨a3, L3, c3⟩)) ∧ Hid (TkA p16 a l c kk ee ws) ∧ Hid (Mod (fun _ => False) w ws) ∧ Hid (Inv (pMsg l 0) ee (pBind (pMore (L3.map loP) (pRep (pLook l) (n3 - i3) kk)) G)) ∧ ws.heap[p2]? = some (.cells zMsg 43 (0, 0)) ∧ ws.heap[p6]? = some (.cells (mgx true b0 b1 b2 a1 i c1 rc a2 i2 c2 a3 i3 c3) 43 (0, 0))) (fun s12 _ => n3 - (intOf s12).toNat)
              case atStart => exact ⟨0, q7, qe7, 0, none, [], by omega, rfl, Lib.hid rfl, HML, HA, HM, HG, kp2, kp6⟩
              case round =>
                obtain ⟨i3, kk, ee, c3, a3, L3, hi, rfl, HLi, HML, HA, HM, HI, kp2, kp6⟩ := hrel
                have kt := HA.out.1
                unfold tkC at kt
                rw [HLL.out] at kt
                go_upto_region 29 with fail
                go_cut [116] from 107 to 137 (fun s116 wx => ∃ z : Bool, s116 = .bool z ∧ Hid (z = true ↔ (i3 < n3 ∧ ee = 0)) ∧ wx = wr)
                case first =>
                  as_aux_lemma =>
                  by_cases hlt : i3 < n3
                  · have hd := decide_eq_true hlt
                    by_cases he : ee = 0
                    · have he0 : ((ee : Int) == 0) = true := by simpa using he
                      go_wp2_with fail
                      go_meet
                      case rel => exact ⟨true, rfl, Lib.hid ⟨fun _ => ⟨hlt, he⟩, fun _ => rfl⟩, rfl⟩
                    · have he0 : ((ee : Int) == 0) = false := by simpa using he
                      go_wp2_with fail
                      go_meet
                      case rel => exact ⟨false, rfl, Lib.hid ⟨fun h => (by cases h), fun h => absurd h.2 he⟩, rfl⟩
                  · have hd := decide_eq_false hlt
                    go_wp2_with fail
                    go_meet
                    case rel => exact ⟨false, rfl, Lib.hid ⟨fun h => (by cases h), fun h => absurd h.1 hlt⟩, rfl⟩
                case rest =>
                obtain ⟨zz, rfl, HZZ, rfl⟩ := hcut
                cases zz with
                | true =>
                  as_aux_lemma =>
                  obtain ⟨hlt, rfl⟩ := HZZ.out.1 rfl
                  clear HZZ kt
                  have HTW := Lib.hid (two_ne HA.out.1 kp6)
                  go_upto_region 31 with fail
                  have hB := tkey_c _ HA.out
                  refine region_seq 5 rfl ?_
                  simp only [List.range, List.range.loop]
                  (refine sq_val (v := ?v84) (by simp only [zA, zB, zC]; rfl) ?hw84 ?hy84 ?hn84; (case hw84 => rfl); (case hy84 => (go_simp; (try with_reducible rfl))); (try simp only [Act.put, zF, zG, zH]))
                  (refine sq_callT (by simp only [zA, zB, zC]; rfl) ?hw85 ?hy85 hB ?hout (fun vn wn hR => ?hret) (fun ch wn hR => ?hpan); (case hw85 => rfl); (case hy85 => (go_simp; (try (first | with_reducible rfl | (constructor <;> with_reducible rfl))))))
                  case hout => exact fun w' h => h.noOut
                  case hpan => exact hR.noPan.elim
                  case hret =>
                  obtain ⟨v9, q, k8, e8, hv9, rfl, hT, hA, hm⟩ := hR
                  cases hv9
                  have HT1 := Lib.hid hT
                  have HA := Lib.hid hA
                  have HW := Lib.hid (hm.mono (T := fun i => i = p16 ∨ i = p6) (fun i _ h => .inl h))
                  replace kp2 := hm.at_ne kp2 h2p
                  replace kp6 := hm.at_ne kp6 h6p
                  clear hB hT hA hm
                  (try simp only [Act.put, zF, zG, zH])
                  obtain ⟨w7, rfl⟩ : ∃ w7 : World, w7 = wn := ⟨_, rfl⟩
                  have hb := bLoI q
                  (refine sq_bldS (by simp only [zA, zB, zC]; rfl) ?hw86 rfl ?hx86 (hb _) ?hn86; (case hw86 => rfl); (case hx86 => (simp only [List.map_toArray, List.map_cons, List.map_nil, Act.eval, zD, zA, zB, zC, zE]; (try rfl))); (try simp only [Act.put, zF, zG, zH]))
                  (refine sq_alloc (by simp only [zA, zB, zC]; rfl) ?hw87 rfl alLo (fun p13 wn gp13 kp13 mp13 => ?hn87); (case hw87 => rfl); (try simp only [Act.put, zF, zG, zH]))
                  (refine sq_store (X := ?X88) (Y := ?Y88) (w' := ?w88) (by simp only [zA, zB, zC]; rfl) ?hw88 rfl rfl ?hx88 ?hz88 ?hy88 ?hn88; (case hw88 => rfl); (case hx88 => (simp only [Act.eval, zD, zA, zB, zC, zE]; (try rfl))); (case hz88 => (simp only [Act.eval, zD, zA, zB, zC, zE]; (try rfl))); (case hy88 => (go_simp; (try with_reducible rfl))))
                  (first | refine sq_set kp13 (fun wn kp13 mS => ?_) | refine sq_setCell kp13 (fun wn kp13 mS => ?_))
                  refine sq_nil ?_
                  replace kp13 : wn.heap[p13]? = some (.cells (lor ⟨q, ⟨none, [], 0⟩, ⟨none, [], 0⟩⟩) 157 (0, 0)) := kp13
                  have hz6 := lt_size kp6
                  have hz2 := lt_size kp2
                  have hz16 := lt_size HA.out.1
                  have hne : p2 ≠ p13 ∧ p6 ≠ p13 ∧ p16 ≠ p13 := by omega
                  have hz13r := Nat.le_trans HW.out.size (Nat.le_of_eq gp13)
                  have hz13 : w.heap.size ≤ p13 := by have := HM.out.size; have := HW.out.size; omega
                  have HW := Lib.hid ((HW.out.then0 mp13).then mS (fun i hi e => by have := HW.out.size; omega))
                  have HA := Lib.hid ((HA.out.mod0 mp13).modQ mS hne.2.2 (fun x e => by have := HL.out.2.2.2.2 x e; omega))
                  replace kp2 := mS.at_ne (mp13.at0 kp2) hne.1
                  replace kp6 := mS.at_ne (mp13.at0 kp6) hne.2.1
                  clear mS mp13 gp13 hb hz6 hz2 hz16
                  obtain ⟨w8, rfl⟩ : ∃ w8 : World, w8 = wn := ⟨_, rfl⟩
                  go_upto_region 32 with fail
                  have hB := tshort_c _ HA.out
                  refine region_seq 6 rfl ?_
                  simp only [List.range, List.range.loop]
                  (refine sq_val (v := ?v89) (by simp only [zA, zB, zC]; rfl) ?hw89 ?hy89 ?hn89; (case hw89 => rfl); (case hy89 => (go_simp; (try with_reducible rfl))); (try simp only [Act.put, zF, zG, zH]))
                  (refine sq_val (v := ?v90) (by simp only [zA, zB, zC]; rfl) ?hw90 ?hy90 ?hn90; (case hw90 => rfl); (case hy90 => (go_simp; (try with_reducible rfl))); (try simp only [Act.put, zF, zG, zH]))
                  (refine sq_callT (by simp only [zA, zB, zC]; rfl) ?hw91 ?hy91 hB ?hout (fun vn wn hR => ?hret) (fun ch wn hR => ?hpan); (case hw91 => rfl); (case hy91 => (go_simp; (try (first | with_reducible rfl | (constructor <;> with_reducible rfl))))))
                  case hout => exact fun w' h => h.noOut
                  case hpan => exact hR.noPan.elim
                  case hret =>
                  obtain ⟨v9, nn, k9, e9, hv9, ⟨rfl, hnb⟩, hT, hA, hm⟩ := hR
                  cases hv9
                  have HTs := Lib.hid hT
                  have HWa := Lib.hid (HW.out.trans (hm.mono (T := fun i => i = p16 ∨ i = p6) (fun i _ h => .inl h)))
                  have hyt : ∀ g C, w8.heap[g]? = some (.cells C 5 (0, 0)) → ¬ g = p16 := fun g C hg => ty_ne HA.out.1 hg (by decide)
                  skip
                  replace kp2 := hm.at_ne kp2 h2p
                  replace kp6 := hm.at_ne kp6 h6p
                  replace kp13 := hm.at_ne kp13 hne.2.2.symm
                  have HAa := Lib.hid hA
                  clear hB hT hA hm hyt
                  (try simp only [Act.put, zF, zG, zH])
                  have hB := tbytes_c nn _ HAa.out (by omega)
                  obtain ⟨w7, rfl⟩ : ∃ w7 : World, w7 = wn := ⟨_, rfl⟩
                  (refine sq_callT (by simp only [zA, zB, zC]; rfl) ?hw92 ?hy92 hB ?hout (fun vn wn hR => ?hret) (fun ch wn hR => ?hpan); (case hw92 => rfl); (case hy92 => (go_simp; (try (first | with_reducible rfl | (constructor <;> with_reducible rfl))))))
                  case hout => exact fun w' h => h.noOut
                  case hpan => exact hR.noPan.elim
                  case hret =>
                  obtain ⟨v9, x1, k8, e8, hv9, ⟨hO, hx⟩, hT, hA, hm⟩ := hR
                  cases hv9
                  have HT2 := Lib.hid (HTs.out.list hT)
                  obtain ⟨ax1, cx1, rfl, -, -⟩ := hO.at bytesT
                  have hwb : w.heap.size ≤ w7.heap.size := by have := HM.out.size; have := HWa.out.size; omega
                  have HY1 := Lib.hid (YAt.of hO hwb)
                  have HWb := Lib.hid (HWa.out.trans (hm.mono (T := fun i => i = p16 ∨ i = p6) (fun i _ h => .inl h)))
                  have hyt : ∀ g C, w7.heap[g]? = some (.cells C 5 (0, 0)) → ¬ g = p16 := fun g C hg => ty_ne HAa.out.1 hg (by decide)
                  skip
                  replace kp2 := hm.at_ne kp2 h2p
                  replace kp6 := hm.at_ne kp6 h6p
                  replace kp13 := hm.at_ne kp13 hne.2.2.symm
                  have HAb := Lib.hid hA
                  have hk13 := kp13
                  clear hB hT hA hm hyt hO hx HTs HWa HAa HW HA
                  (try simp only [Act.put, zF, zG, zH])
                  obtain ⟨w9, rfl⟩ : ∃ w9 : World, w9 = wn := ⟨_, rfl⟩
                  have H13 := Lib.hid kp13
                  (refine sq_val (v := ?v93) (by simp only [zA, zB, zC]; rfl) ?hw93 ?hy93 ?hn93; (case hw93 => rfl); (case hy93 => (go_simp; (try with_reducible rfl))); (try simp only [Act.put, zF, zG, zH]))
                  (refine sq_store (X := ?X94) (Y := ?Y94) (w' := ?w94) (by simp only [zA, zB, zC]; rfl) ?hw94 rfl rfl ?hx94 ?hz94 ?hy94 ?hn94; (case hw94 => rfl); (case hx94 => (simp only [Act.eval, zD, zA, zB, zC, zE]; (try rfl))); (case hz94 => (simp only [Act.eval, zD, zA, zB, zC, zE]; (try rfl))); (case hy94 => (go_simp; (try with_reducible rfl))))
                  (first | refine sq_set kp13 (fun wn kp13 mS => ?_) | refine sq_setCell kp13 (fun wn kp13 mS => ?_))
                  refine sq_nil ?_
                  replace kp13 : wn.heap[p13]? = some (.cells (lor ⟨q, ⟨ax1, x1, cx1⟩, ⟨none, [], 0⟩⟩) 157 (0, 0)) := by
                    rw [kp13]
                    exact congrArg _ (congrArg (fun z => Obj.cells z 157 (0, 0)) (lor_w' _ _ _ rfl))
                  have hyt : ∀ g C, w9.heap[g]? = some (.cells C 5 (0, 0)) → ¬ g = p13 := fun g C hg => ty_ne H13.out hg (by decide)
                  have HY1 := Lib.hid (HY1.out.mod mS hyt)
                  skip
                  have HW := Lib.hid (HWb.out.then mS (fun i hi e => by omega))
                  have HA := Lib.hid (HAb.out.modQ mS hne.2.2 (fun x e => by have := HL.out.2.2.2.2 x e; omega))
                  replace kp2 := mS.at_ne kp2 hne.1
                  replace kp6 := mS.at_ne kp6 hne.2.1
                  clear mS hyt H13 HWb HAb hk13
                  obtain ⟨w8, rfl⟩ : ∃ w8 : World, w8 = wn := ⟨_, rfl⟩
                  go_upto_region 33 with fail
                  have hB := tshort_c _ HA.out
                  refine region_seq 6 rfl ?_
                  simp only [List.range, List.range.loop]
                  (refine sq_val (v := ?v95) (by simp only [zA, zB, zC]; rfl) ?hw95 ?hy95 ?hn95; (case hw95 => rfl); (case hy95 => (go_simp; (try with_reducible rfl))); (try simp only [Act.put, zF, zG, zH]))
                  (refine sq_val (v := ?v96) (by simp only [zA, zB, zC]; rfl) ?hw96 ?hy96 ?hn96; (case hw96 => rfl); (case hy96 => (go_simp; (try with_reducible rfl))); (try simp only [Act.put, zF, zG, zH]))
                  (refine sq_callT (by simp only [zA, zB, zC]; rfl) ?hw97 ?hy97 hB ?hout (fun vn wn hR => ?hret) (fun ch wn hR => ?hpan); (case hw97 => rfl); (case hy97 => (go_simp; (try (first | with_reducible rfl | (constructor <;> with_reducible rfl))))))
                  case hout => exact fun w' h => h.noOut
                  case hpan => exact hR.noPan.elim
                  case hret =>
                  obtain ⟨v9, nn, k9, e9, hv9, ⟨rfl, hnb⟩, hT, hA, hm⟩ := hR
                  cases hv9
                  have HTs := Lib.hid hT
                  have HWa := Lib.hid (HW.out.trans (hm.mono (T := fun i => i = p16 ∨ i = p6) (fun i _ h => .inl h)))
                  have hyt : ∀ g C, w8.heap[g]? = some (.cells C 5 (0, 0)) → ¬ g = p16 := fun g C hg => ty_ne HA.out.1 hg (by decide)
                  have HY1 := Lib.hid (HY1.out.mod hm hyt)
                  replace kp2 := hm.at_ne kp2 h2p
                  replace kp6 := hm.at_ne kp6 h6p
                  replace kp13 := hm.at_ne kp13 hne.2.2.symm
                  have HAa := Lib.hid hA
                  clear hB hT hA hm hyt
                  (try simp only [Act.put, zF, zG, zH])
                  have hB := tbytes_c nn _ HAa.out (by omega)
                  obtain ⟨w7, rfl⟩ : ∃ w7 : World, w7 = wn := ⟨_, rfl⟩
                  (refine sq_callT (by simp only [zA, zB, zC]; rfl) ?hw98 ?hy98 hB ?hout (fun vn wn hR => ?hret) (fun ch wn hR => ?hpan); (case hw98 => rfl); (case hy98 => (go_simp; (try (first | with_reducible rfl | (constructor <;> with_reducible rfl))))))
                  case hout => exact fun w' h => h.noOut
                  case hpan => exact hR.noPan.elim
                  case hret =>
                  obtain ⟨v9, x2, k8, e8, hv9, ⟨hO, hx⟩, hT, hA, hm⟩ := hR
                  cases hv9
                  have HT3 := Lib.hid (HTs.out.list hT)
                  obtain ⟨ax2, cx2, rfl, -, -⟩ := hO.at bytesT
                  have hwb : w.heap.size ≤ w7.heap.size := by have := HM.out.size; have := HWa.out.size; omega
                  have HY2 := Lib.hid (YAt.of hO hwb)
                  have HWb := Lib.hid (HWa.out.trans (hm.mono (T := fun i => i = p16 ∨ i = p6) (fun i _ h => .inl h)))
                  have hyt : ∀ g C, w7.heap[g]? = some (.cells C 5 (0, 0)) → ¬ g = p16 := fun g C hg => ty_ne HAa.out.1 hg (by decide)
                  have HY1 := Lib.hid (HY1.out.mod hm hyt)
                  replace kp2 := hm.at_ne kp2 h2p
                  replace kp6 := hm.at_ne kp6 h6p
                  replace kp13 := hm.at_ne kp13 hne.2.2.symm
                  have HAb := Lib.hid hA
                  have hk13 := kp13
                  clear hB hT hA hm hyt hO hx HTs HWa HAa HW HA
                  (try simp only [Act.put, zF, zG, zH])
                  obtain ⟨w9, rfl⟩ : ∃ w9 : World, w9 = wn := ⟨_, rfl⟩
                  have H13 := Lib.hid kp13
                  (refine sq_val (v := ?v99) (by simp only [zA, zB, zC]; rfl) ?hw99 ?hy99 ?hn99; (case hw99 => rfl); (case hy99 => (go_simp; (try with_reducible rfl))); (try simp only [Act.put, zF, zG, zH]))
                  (refine sq_store (X := ?X100) (Y := ?Y100) (w' := ?w100) (by simp only [zA, zB, zC]; rfl) ?hw100 rfl rfl ?hx100 ?hz100 ?hy100 ?hn100; (case hw100 => rfl); (case hx100 => (simp only [Act.eval, zD, zA, zB, zC, zE]; (try rfl))); (case hz100 => (simp only [Act.eval, zD, zA, zB, zC, zE]; (try rfl))); (case hy100 => (go_simp; (try with_reducible rfl))))
                  (first | refine sq_set kp13 (fun wn kp13 mS => ?_) | refine sq_setCell kp13 (fun wn kp13 mS => ?_))
                  refine sq_nil ?_
                  replace kp13 : wn.heap[p13]? = some (.cells (lor ⟨q, ⟨ax1, x1, cx1⟩, ⟨ax2, x2, cx2⟩⟩) 157 (0, 0)) := by
                    rw [kp13]
                    exact congrArg _ (congrArg (fun z => Obj.cells z 157 (0, 0)) (lor_r' _ _ _ rfl))
                  have hyt : ∀ g C, w9.heap[g]? = some (.cells C 5 (0, 0)) → ¬ g = p13 := fun g C hg => ty_ne H13.out hg (by decide)
                  have HY2 := Lib.hid (HY2.out.mod mS hyt)
                  have HY1 := Lib.hid (HY1.out.mod mS hyt)
                  have HW := Lib.hid (HWb.out.then mS (fun i hi e => by omega))
                  have HA := Lib.hid (HAb.out.modQ mS hne.2.2 (fun x e => by have := HL.out.2.2.2.2 x e; omega))
                  replace kp2 := mS.at_ne kp2 hne.1
                  replace kp6 := mS.at_ne kp6 hne.2.1
                  clear mS hyt H13 HWb HAb hk13
                  obtain ⟨w8, rfl⟩ : ∃ w8 : World, w8 = wn := ⟨_, rfl⟩
                  have HTA : Hid (Tk 0 (pLook l kk) ⟨q, x1, x2⟩ k8 e8) := Lib.hid (by
                    rw [pLook_bind]
                    exact HT1.out.bind (NE.key _ _) (HT2.out.bind (NE.list _ _) (HT3.out.bind (NE.list _ _) Tk.pure)))
                  clear HT1 HT2 HT3
                  obtain ⟨r, hr⟩ : ∃ r : LoR, r = ⟨q, ⟨ax1, x1, cx1⟩, ⟨ax2, x2, cx2⟩⟩ := ⟨_, rfl⟩
                  rw [← hr] at kp13
                  have HRR := Lib.hid hr
                  clear hr
                  have hbs := bsLoR r
                  go_upto_region 34 with fail
                  refine region_seq 7 rfl ?_
                  simp only [List.range, List.range.loop]
                  (refine sq_val (v := ?v101) (by simp only [zA, zB, zC]; rfl) ?hw101 ?hy101 ?hn101; (case hw101 => rfl); (case hy101 => (go_simp; (try with_reducible rfl))); (try simp only [Act.put, zF, zG, zH]))
                  (refine sq_load (v := ?v102) (p := ?p102) (by simp only [zA, zB, zC]; rfl) ?hw102 rfl ?hx102 ?hy102 ?hn102; (case hw102 => rfl); (case hx102 => (simp only [Act.eval, zD, zA, zB, zC, zE]; (try rfl))); (case hy102 => (go_simp; (try with_reducible rfl))); (try simp only [Act.put, zF, zG, zH]))
                  (refine sq_load (v := ?v103) (p := ?p103) (by simp only [zA, zB, zC]; rfl) ?hw103 rfl ?hx103 ?hy103 ?hn103; (case hw103 => rfl); (case hx103 => (simp only [Act.eval, zD, zA, zB, zC, zE]; (try rfl))); (case hy103 => (go_simp; (try with_reducible rfl))); (try simp only [Act.put, zF, zG, zH]))
                  (refine sq_new (by simp only [zA, zB, zC]; rfl) ?hw104 rfl ?hx104 (hbs _) (fun q135 wn gq135 kq135 mq135 => ?hn104); (case hw104 => rfl); (case hx104 => (simp only [List.map_toArray, List.map_cons, List.map_nil, Act.eval, zD, zA, zB, zC, zE]; (try rfl))); (try simp only [Act.put, zF, zG, zH]))
                  have hLi := HLi.out
                  have hML := HML.out.mod (HW.out.then0 mq135) HTW.out
                  have hO2 : SlOwn lor 34 157 wn w.heap.size (.slice a3 L3.length c3) L3 := hML.2.2.1
                  have hMq := (HM.out.then HW.out (fun i hi e => by omega)).then0 mq135
                  obtain ⟨v8, w8', hap, hO8, m8, hn8⟩ := SlOwn.append lookupT (q := [r]) (c := 1) hO2 (SlAt.one kq135 r rfl (lor_sz r)) (by show L3.length + _ ≤ _; simp only [List.length_singleton]; omega) (by decide) hMq.size 41
                  obtain ⟨a8, c8, rfl, -, -⟩ := hO8.at lookupT
                  have hlen : (L3 ++ [r]).length = i3 + 1 := by rw [List.length_append, hLi]; rfl
                  have hlo := hO2.lt
                  have hy8 : ∀ g C, wn.heap[g]? = some (.cells C 5 (0, 0)) → ¬ (Value.slice a3 L3.length c3).ownBlock = some g := fun g C hg => own_ty (C := C) hO2 hg (by decide)
                  have hML8 : MsgL w.heap.size w8' (mkR true b0 b1 b2 ⟨a1, L, c1⟩ rc ⟨a2, L2, c2⟩ ⟨a8, L3 ++ [r], c8⟩) := by
                    refine ⟨hML.1.mod m8 (fun g hg => by obtain ⟨C, hk⟩ := own_blk2 hML.1 g hg; exact own_ty hO2 hk (by decide)), ⟨hML.2.1.1.mod m8 (fun g hg => by obtain ⟨C, hk⟩ := own_blk2 hML.2.1.1 g hg; exact own_ty hO2 hk (by decide)), fun j hj => ⟨(hML.2.1.2 j hj).1.mod m8 hy8, (hML.2.1.2 j hj).2.mod m8 hy8⟩⟩, hO8, fun j hj => ?_⟩
                    rcases List.mem_append.1 hj with hj | hj
                    · exact ⟨(hML.2.2.2 j hj).1.mod m8 hy8, (hML.2.2.2 j hj).2.mod m8 hy8⟩
                    · rw [List.mem_singleton] at hj
                      subst hj
                      rw [HRR.out]
                      exact ⟨(HY1.out.mod mq135 (fun _ _ _ h => h)).mod m8 hy8, (HY2.out.mod mq135 (fun _ _ _ h => h)).mod m8 hy8⟩
                  have hM8 := hMq.then m8 (fun j hj e => by have := (hlo j e).1; omega)
                  have hA8 : TkA p16 a l c k8 e8 w8' := by
                    have h1 := HA.out.mod0 mq135
                    exact ⟨m8.at h1.1 (fun e => own_ne hO2 h1.1 (by decide) _ e rfl), HL.out.1.mod0 hM8, h1.2.2⟩
                  replace kp2 := m8.at (mq135.at0 kp2) (fun e => own_ne hO2 (mq135.at0 kp2) (by decide) _ e rfl)
                  replace kp6 := m8.at (mq135.at0 kp6) (fun e => own_ne hO2 (mq135.at0 kp6) (by decide) _ e rfl)
                  have HI8 : Hid (Inv (pMsg l 0) e8 (pBind (pMore ((L3 ++ [r]).map loP) (pRep (pLook l) (n3 - (i3 + 1)) k8)) G)) := Lib.hid (by
                    have h1 := HI.out.rep hlt HTA.out (NE.look _ _)
                    rw [List.map_append, HRR.out]
                    exact h1)
                  have HTW8 := Lib.hid (two_ne hA8.1 kp6)
                  have HF := Lib.hid (And.intro hML8 (And.intro hM8 (And.intro hA8 hlen)))
                  have hap2 : (Builtin.append_ #[41, 41] 41 #[.slice a3 i3 c3, .slice (some ⟨q135, 0, none⟩) 1 1]).run Tryz.prog wn = .ok (.slice a8 (i3 + 1) c8) w8' := by
                    have h1 := hap
                    rw [hlen, hLi] at h1
                    exact h1
                  clear hap hML hO2 hMq hO8 m8 hn8 hlen hlo hy8 hML8 hM8 hA8 hLi mq135 kq135 gq135 hbs
                  (refine sq_append (by simp only [zA, zB, zC]; rfl) ?hw105 rfl ?hx105 ?hz105 hap2 ?hn105; (case hw105 => rfl); (case hx105 => (simp only [Act.eval, zD, zA, zB, zC, zE]; (try rfl))); (case hz105 => (simp only [Act.eval, zD, zA, zB, zC, zE]; (try rfl))); (try simp only [Act.put, zF, zG, zH]))
                  (refine sq_val (v := ?v106) (by simp only [zA, zB, zC]; rfl) ?hw106 ?hy106 ?hn106; (case hw106 => rfl); (case hy106 => (go_simp; (try with_reducible rfl))); (try simp only [Act.put, zF, zG, zH]))
                  (refine sq_store (X := ?X107) (Y := ?Y107) (w' := ?w107) (by simp only [zA, zB, zC]; rfl) ?hw107 rfl rfl ?hx107 ?hz107 ?hy107 ?hn107; (case hw107 => rfl); (case hx107 => (simp only [Act.eval, zD, zA, zB, zC, zE]; (try rfl))); (case hz107 => (simp only [Act.eval, zD, zA, zB, zC, zE]; (try rfl))); (case hy107 => (go_simp; (try with_reducible rfl))))
                  (first | refine sq_set kp6 (fun wn kp6 mS => ?_) | refine sq_setCell kp6 (fun wn kp6 mS => ?_))
                  refine sq_nil ?_
                  replace kp6 : wn.heap[p6]? = some (.cells (mgx true b0 b1 b2 a1 i c1 rc a2 i2 c2 a8 (i3 + 1) c8) 43 (0, 0)) := by
                    rw [kp6, mgx_lks]
                  have HA9 := Lib.hid (HF.out.2.2.1.modQ mS h6p.symm (fun x e => by have := HL.out.2.2.2.2 x e; omega))
                  have HM9 := Lib.hid (HF.out.2.1.then mS (fun i hi e => by omega))
                  have HML9 := Lib.hid (HF.out.1.mod mS (fun g C E hk hE h => HTW8.out g C E hk hE (.inr h)))
                  replace kp2 := mS.at_ne kp2 h26
                  have HL9 := Lib.hid HF.out.2.2.2
                  clear mS
                  go_wp2_with fail
                  go_roundw
                  case rel => exact ⟨i3 + 1, k8, e8, c8, a8, L3 ++ [r], by omega, by go_num, HL9, HML9, HA9, HM9, HI8, kp2, kp6⟩
                  case measure => simp [intOf]; omega
                | false =>
                  have hdn := HI.out.done (by
                    by_cases h0 : ee = 0
                    · exact .inl (by have := mt (fun h => HZZ.out.2 ⟨h, h0⟩) (by simp : ¬ (false = true)); omega)
                    · exact .inr h0)
                  rw [HGF.out] at hdn
                  have HI3 : Hid (Inv (pMsg l 0) ee (.ok (⟨true, b0, b1, b2, L, rc, L2.map inP, L3.map loP⟩, kk))) := Lib.hid (by
                    have h1 := hdn
                    dsimp only at h1
                    rw [HZ.out] at h1
                    exact h1)
                  have HMS : Hid (mgx true b0 b1 b2 a1 i c1 rc a2 i2 c2 a3 i3 c3 = msr (mkR true b0 b1 b2 ⟨a1, L, c1⟩ rc ⟨a2, L2, c2⟩ ⟨a3, L3, c3⟩)) := Lib.hid (msr_mk HLk.out HLj.out HLi.out)
                  clear hdn HI HG HGF HZZ
                  go_upto_region 35 with fail
                  by_cases he : ee = 0
                  · subst he
                    have hne : ((0 : Int) != 0) = false := rfl
                    have HE : Hid (pMsg l 0 = _) := Lib.hid (HI3.out.1 rfl)
                    have HKL := Lib.hid HA.out.2.2.1
                    have nW : ¬ (fun i => i = p2) p16 := by simp only; omega
                    have nW6 : ¬ (fun i => i = p2) p6 := by simp only; omega
                    obtain ⟨X, hX⟩ : ∃ X, mgx true b0 b1 b2 a1 i c1 rc a2 i2 c2 a3 i3 c3 = X := ⟨_, rfl⟩
                    have hXs : X.size = 39 := by rw [← hX, mgx_size]
                    have hXe : X.extract 0 39 = X := by rw [← hX, mgx_ext]
                    have hXo : X.all (·.oneCell') = true := by rw [← hX]; exact mgx_one ..
                    have HX := Lib.hid hX
                    have HXO := Lib.hid (And.intro hXs hXo)
                    rw [hX] at kp6
                    clear hX hXo
                    have hld : ∀ w', w'.heap[p6]? = some (.cells X 43 (0, 0)) → (Instr.loadAt 43 (.pointer (some ⟨p6, 0, none⟩))).run Tryz.prog w' = .ok (.agg X) w' := fun w' h => by rw [ldMsg, h]; simp [hXs, hXe]
                    have HLD := Lib.hid hld
                    clear hld hXs hXe
                    go_upto_region 37 with fail
                    have Lkt := lt_size kt
                    have Lkp6 := lt_size kp6
                    refine wp_gpass (T0 := fun i => i = p2) (K := fun T w => T p2 ∧ w.heap[p2]? = some (.cells zMsg 43 (0, 0))) (κ := fun i => [0, 0, 0, 0, 0, 6, 0, 0].getD i 0) (υ := fun i => [[], [], [], [], [], [], [], []].getD i []) [0, 1, 2, 3, 4, 5, 6, 7] (by kernel_rfl) (by kernel_rfl) (Good.at p2 (.cells zMsg 43 (0, 0))).cl (⟨rfl, kp2⟩) (fun i hi => by subst hi; exact lt_size kp2) ?_
                    have gK := Good.at p2 (.cells zMsg 43 (0, 0))
                    (refine TG.load (v := ?v108) (p := ?p108) (by simp only [zA, zB, zC]; rfl) rfl ?hw108 rfl ?hx108 (fun wq hSq => ?hy108) ?hn108; (case hw108 => rfl); (case hx108 => (simp only [Act.eval, zD, zA, zB, zC, zE]; (try rfl))); (case hy108 => (have ktq := hSq.at kt (by intro hT; first | exact hT | exact absurd hT (by assumption) | omega | (simp only at hT; omega)); have kp6q := hSq.at kp6 (by intro hT; first | exact hT | exact absurd hT (by assumption) | omega | (simp only at hT; omega)); exact HLD.out _ kp6q)); (try simp only [Act.put, zF, zG, zH]))
                    (refine TG.v0 (v := ?v109) (by simp only [zA, zB, zC]; rfl) rfl ?hw109 (fun w1 => ?hy109) ?hn109; (case hw109 => rfl); (case hy109 => (go_simp; (try with_reducible rfl))); (try simp only [Act.put, zF, zG, zH]))
                    (refine TG.v0 (v := ?v110) (by simp only [zA, zB, zC]; rfl) rfl ?hw110 (fun w1 => ?hy110) ?hn110; (case hw110 => rfl); (case hy110 => (go_simp; (try with_reducible rfl))); (try simp only [Act.put, zF, zG, zH]))
                    (refine TG.v0 (v := ?v111) (by simp only [zA, zB, zC]; rfl) rfl ?hw111 (fun w1 => ?hy111) ?hn111; (case hw111 => rfl); (case hy111 => (go_simp; (try with_reducible rfl))); (try simp only [Act.put, zF, zG, zH]))
                    (refine TG.load (v := ?v112) (p := ?p112) (by simp only [zA, zB, zC]; rfl) rfl ?hw112 rfl ?hx112 (fun wq hSq => ?hy112) ?hn112; (case hw112 => rfl); (case hx112 => (simp only [Act.eval, zD, zA, zB, zC, zE]; (try rfl))); (case hy112 => (have ktq := hSq.at kt (by intro hT; first | exact hT | exact absurd hT (by assumption) | omega | (simp only at hT; omega)); have kp6q := hSq.at kp6 (by intro hT; first | exact hT | exact absurd hT (by assumption) | omega | (simp only at hT; omega)); go_simp; (try with_reducible rfl))); (try simp only [Act.put, zF, zG, zH]))
                    (refine TG.storeO (X := ?X113) (Y := ?Y113) (fun T w => T p2 ∧ w.heap[p2]? = some (.cells X 43 (0, 0))) (Good.at p2 (.cells X 43 (0, 0))) (by simp only [zA, zB, zC]; rfl) rfl ?hw113 rfl rfl ?hx113 ?hz113 (fun T wq kq => ?hy113) (fun _ => ?hn113); (case hw113 => rfl); (case hx113 => (simp only [Act.eval, zD, zA, zB, zC, zE]; (try rfl))); (case hz113 => (simp only [Act.eval, zD, zA, zB, zC, zE]; (try rfl))); (case hy113 => (obtain ⟨k1, k2⟩ := kq; refine ⟨setBlock wq p2 (.cells X 43 (0, 0)), ?_, (mod_set wq p2 _).mono (fun i _ e => by rw [e]; exact k1), k1, heap_setBlock wq _ (lt_size k2)⟩; exact run_store_box k2 (by rw [HXO.out.1]; kernel_rfl) (by rw [HXO.out.1, zMsg_size]) HXO.out.2)); replace gK := (Good.at p2 (.cells X 43 (0, 0))); (try simp only [Act.put, zF, zG, zH]))
                    (refine TG.v0 (v := ?v114) (by simp only [zA, zB, zC]; rfl) rfl ?hw114 (fun w1 => ?hy114) ?hn114; (case hw114 => rfl); (case hy114 => (go_simp; (try with_reducible rfl))); (try simp only [Act.put, zF, zG, zH]))
                    (refine TG.v0 (v := ?v115) (by simp only [zA, zB, zC]; rfl) rfl ?hw115 (fun w1 => ?hy115) ?hn115; (case hw115 => rfl); (case hy115 => (go_simp; (try with_reducible rfl))); (try simp only [Act.put, zF, zG, zH]))
                    refine TG.nil (fun w9 ⟨TR, hr⟩ => ?_)
                    replace kt := hr.mod.at kt (by intro hT; first | exact hT | exact absurd hT (by assumption) | omega | (simp only at hT; omega))
                    replace kp6 := hr.mod.at kp6 (by intro hT; first | exact hT | exact absurd hT (by assumption) | omega | (simp only at hT; omega))
                    clear gK
                    have HF : Hid (w9.heap[p2]? = some (.cells X 43 (0, 0)) ∧ Mod (fun _ => False) w w9) := Lib.hid ⟨hr.k.2, HM.out.then hr.mod (fun i hi e => by omega)⟩
                    have HMF := Lib.hid (HML.out.mod hr.mod (fun g C E hk hE e => ty_ne kp2 hk (by rcases hE with rfl | rfl | rfl | rfl <;> decide) e))
                    clear hr kp2
                    go_wp2_with fail
                    refine bodyPost_ret (results_ctt rfl rfl (v1 := .agg X) (by rw [← HX.out]; exact ldMgx (by rw [HX.out]; exact HF.out.1))) rfl ?_
                    unfold RgetP
                    rw [HE.out]
                    refine ⟨HF.out.2, _, ?_, HMF.out, rfl⟩
                    show Ending.returned (.tuple #[.agg X, i64n kk, i64n 0]) = _
                    rw [← HX.out, HMS.out]
                  · have hne : ((ee : Int) != 0) = true := by simpa using he
                    have HE : Hid (pMsg l 0 = .error ee) := Lib.hid (HI3.out.2 he)
                    have nW : ¬ (fun i => i = p2) p16 := by simp only; omega
                    have hb := bMsg0
                    go_upto_region 36 with fail
                    have Lkt := lt_size kt
                    refine wp_gpass (T0 := fun i => i = p2) (K := fun T w => T p2 ∧ w.heap[p2]? = some (.cells zMsg 43 (0, 0))) (κ := fun i => [0, 0, 0, 0, 0, 6, 0, 0].getD i 0) (υ := fun i => [[], [], [], [], [], [], [], []].getD i []) [0, 1, 2, 3, 4, 5, 6, 7] (by kernel_rfl) (by kernel_rfl) (Good.at p2 (.cells zMsg 43 (0, 0))).cl (⟨rfl, kp2⟩) (fun i hi => by subst hi; exact lt_size kp2) ?_
                    have gK := Good.at p2 (.cells zMsg 43 (0, 0))
                    (refine TG.build (v := ?v116) (ps := ?p116) (by simp only [zA, zB, zC]; rfl) rfl ?hw116 rfl ?hx116 (fun w1 => ?hy116) ?hn116; (case hw116 => rfl); (case hx116 => (simp only [List.map_toArray, List.map_cons, List.map_nil, Act.eval, zD, zA, zB, zC, zE]; (try rfl))); (case hy116 => (rw [hb]; (try with_reducible rfl))); (try simp only [Act.put, zF, zG, zH]))
                    (refine TG.v0 (v := ?v117) (by simp only [zA, zB, zC]; rfl) rfl ?hw117 (fun w1 => ?hy117) ?hn117; (case hw117 => rfl); (case hy117 => (go_simp; (try with_reducible rfl))); (try simp only [Act.put, zF, zG, zH]))
                    (refine TG.v0 (v := ?v118) (by simp only [zA, zB, zC]; rfl) rfl ?hw118 (fun w1 => ?hy118) ?hn118; (case hw118 => rfl); (case hy118 => (go_simp; (try with_reducible rfl))); (try simp only [Act.put, zF, zG, zH]))
                    (refine TG.v0 (v := ?v119) (by simp only [zA, zB, zC]; rfl) rfl ?hw119 (fun w1 => ?hy119) ?hn119; (case hw119 => rfl); (case hy119 => (go_simp; (try with_reducible rfl))); (try simp only [Act.put, zF, zG, zH]))
                    (refine TG.load (v := ?v120) (p := ?p120) (by simp only [zA, zB, zC]; rfl) rfl ?hw120 rfl ?hx120 (fun wq hSq => ?hy120) ?hn120; (case hw120 => rfl); (case hx120 => (simp only [Act.eval, zD, zA, zB, zC, zE]; (try rfl))); (case hy120 => (have ktq := hSq.at kt (by intro hT; first | exact hT | exact absurd hT (by assumption) | omega | (simp only at hT; omega)); go_simp; (try with_reducible rfl))); (try simp only [Act.put, zF, zG, zH]))
                    (refine TG.storeO (X := ?X121) (Y := ?Y121) (fun T w => T p2 ∧ w.heap[p2]? = some (.cells zMsg 43 (0, 0))) (Good.at p2 (.cells zMsg 43 (0, 0))) (by simp only [zA, zB, zC]; rfl) rfl ?hw121 rfl rfl ?hx121 ?hz121 (fun T wq kq => ?hy121) (fun _ => ?hn121); (case hw121 => rfl); (case hx121 => (simp only [Act.eval, zD, zA, zB, zC, zE]; (try rfl))); (case hz121 => (simp only [Act.eval, zD, zA, zB, zC, zE]; (try rfl))); (case hy121 => (obtain ⟨k1, k2⟩ := kq; refine ⟨setBlock wq p2 (.cells zMsg 43 (0, 0)), ?_, (mod_set wq p2 _).mono (fun i _ e => by rw [e]; exact k1), k1, heap_setBlock wq _ (lt_size k2)⟩; exact run_store_box k2 (by kernel_rfl) rfl zMsg_all)); replace gK := (Good.at p2 (.cells zMsg 43 (0, 0))); (try simp only [Act.put, zF, zG, zH]))
                    (refine TG.v0 (v := ?v122) (by simp only [zA, zB, zC]; rfl) rfl ?hw122 (fun w1 => ?hy122) ?hn122; (case hw122 => rfl); (case hy122 => (go_simp; (try with_reducible rfl))); (try simp only [Act.put, zF, zG, zH]))
                    (refine TG.v0 (v := ?v123) (by simp only [zA, zB, zC]; rfl) rfl ?hw123 (fun w1 => ?hy123) ?hn123; (case hw123 => rfl); (case hy123 => (go_simp; (try with_reducible rfl))); (try simp only [Act.put, zF, zG, zH]))
                    refine TG.nil (fun w9 ⟨TR, hr⟩ => ?_)
                    replace kt := hr.mod.at kt (by intro hT; first | exact hT | exact absurd hT (by assumption) | omega | (simp only at hT; omega))
                    clear gK
                    have HF : Hid (w9.heap[p2]? = some (.cells zMsg 43 (0, 0)) ∧ Mod (fun _ => False) w w9) := Lib.hid ⟨hr.k.2, HM.out.then hr.mod (fun i hi e => by omega)⟩
                    clear hr kp2
                    go_wp2_with fail
                    refine bodyPost_ret (results_ctt rfl rfl (ldZM HF.out.1)) rfl ?_
                    unfold RgetP
                    rw [HE.out]
                    exact ⟨HF.out.2, rfl⟩
end Go.Proofs.YtofpnmoeimjnnaaGreat
namespace Go.Proofs.YtofpnmoeimjnnaaGreat
open Go.RowKit
open Go.ChangeMaps (setBlock)
set_option linter.unusedSimpArgs false
set_option linter.unusedVariables false
attribute [local go_sem] cell_blk frozen_blk one_int one_bool one_ptr one_slice one_map Value.cells
attribute [local go_sem ↓] wlKey ldKey stKey wlMsg ldMsg stMsg wlRg ldRg stRg wlTc ldTc stTc wlSg ldSg stSg
attribute [local go_sem] kc_ext kc_one kc_one0 kc_size zKey_size one_slice mgx_size mgx_ext mgx_one mgx_one0 zMsg_size zMsg_all zMsg_all0
theorem msr_sz (r : RdR) : (msr r).size = 39 := mx_size _ _ _
theorem msr_al (r : RdR) : (msr r).all (·.oneCell') = true := mx_one rfl rfl
theorem msr_al0 (r : RdR) : (msr r).all (·.oneCell') 0 39 = true := all_of (msr_sz r) (msr_al r)
theorem msr_ex (r : RdR) : (msr r).extract 0 39 = msr r := mx_full rfl
attribute [local go_sem] rgx0' rgx40' rgx_size rgx_ext rgx_one rgx_one0 rgx0 rgx40 tcx_size tcx_ext tcx_one tcx_one0 mcx_size mcx_one mcx_one0 mcx_ext tcx0 zTc_size zTc_ext zTc_all zTc_all0 sgc_size sgc_ext sgc_one0 sgc_one' msr_sz msr_al msr_al0 msr_ex
def TxLd (b : Nat) (w : World) (r : RdR) : Prop := SlOwn sgc 64 66 w b (.slice r.sg.a r.sg.l.length r.sg.c) r.sg.l ∧ MsgL b w r
def RpgetP (w : World) (l : List UInt8) (en : Ending) (w' : World) : Prop := Mod (fun _ => False) w w' ∧ match pTx l with
  | .ok (x, k) => ∃ r, en = .returned (.tuple #[.agg (txr r), i64n k, i64n 0]) ∧ TxLd w.heap.size w' r ∧ txP r = x
  | .error n => en = .returned (.tuple #[.agg zTc, i64n 0, i64n n])
theorem slAll64 (p : Nat) (w : World) : (Instr.sliceAt 66 (.pointer (some ⟨p, 0, none⟩)) none none none).run Tryz.prog w = .ok (.slice (some ⟨p, 0, none⟩) 64 64) w := by kernel_rfl
theorem tcx_s (sa sa' : Option Addr) (sn sn' sc sc' : Nat) (m : McR) : (tcx sa sn sc m).setIfInBounds 0 (.slice sa' sn' sc') = tcx sa' sn' sc' m := mx_setpre (by simp) _
theorem tcx0' {sa : Option Addr} {sn sc : Nat} {m : McR} (h : 0 < (tcx sa sn sc m).size) : (tcx sa sn sc m)[0] = .slice sa sn sc := at_get (tcx0 ..) h
theorem zSg_size : zSg.size = 64 := by simp [zSg]
attribute [local go_sem] tcx0' zSg_size
theorem RgetP.noOut {w w' : World} {l : List UInt8} (h : RgetP w l .outgrown w') : False := by
  unfold RgetP at h
  split at h
  · obtain ⟨_, _, h, _⟩ := h
    cases h
  · cases h.2
theorem RgetP.noPan {w w' : World} {l : List UInt8} {ch : List PanicEntry} (h : RgetP w l (.panicked ch) w') : False := by
  unfold RgetP at h
  split at h
  · obtain ⟨_, _, h, _⟩ := h
    cases h
  · cases h.2
theorem YAt.base {b b' : Nat} {w : World} {a : Option Addr} {l : List UInt8} (h : YAt b w a l) (hb : b' ≤ b) : YAt b' w a l := ⟨h.1, fun x e => ⟨Nat.le_trans hb (h.2 x e).1, (h.2 x e).2⟩⟩
theorem MsgL.base {b b' : Nat} {w : World} {r : RdR} (h : MsgL b w r) (hb : b' ≤ b) : MsgL b' w r :=
  ⟨h.1.low hb, ⟨h.2.1.1.low hb, fun i hi => ⟨(h.2.1.2 i hi).1.base hb, (h.2.1.2 i hi).2.base hb⟩⟩, h.2.2.1.low hb, fun i hi => ⟨(h.2.2.2 i hi).1.base hb, (h.2.2.2 i hi).2.base hb⟩⟩
theorem tcx_m (sa : Option Addr) (sc : Nat) (S : List Sg) (m : McR) (r : RdR) {sn : Nat} (h : S.length = sn) : wr (tcx sa sn sc m) 1 (msr r).toList = txr { r with sg := ⟨sa, S, sc⟩ } := by
  subst h
  apply Array.toList_inj.1
  have h1 : (msr r).toList.length = 39 := by rw [Array.length_toList, msr_sz]
  rw [wr_list _ _ _ (by rw [tcx_size, h1]; omega), h1]
  have e1 : (tcx sa S.length sc m).toList = [.slice sa S.length sc] ++ (mpr m ++ (m.rc.l.map bc ++ mpo m)) := by simp [tcx, mx]
  have e3 : (txr { r with sg := ⟨sa, S, sc⟩ }).toList = [.slice sa S.length sc] ++ (msr r).toList := by simp [txr, msr, mx, rpre, rpost]
  have h39 : (mpr m ++ (m.rc.l.map bc ++ mpo m)).length = 39 := by simp [mpr, mpo, m.rc.h]
  rw [e1, e3]
  generalize mpr m ++ (m.rc.l.map bc ++ mpo m) = X at *
  rw [List.take_left' (by rfl), ← List.drop_drop, List.drop_left' (by rfl), List.drop_of_length_le (by omega)]
  simp
theorem ldMsr {w : World} {p : Nat} {r : RdR} {U : TypeId} {fr : Nat × Nat} (h : w.heap[p]? = some (.cells (msr r) U fr)) : (Instr.loadAt 43 (.pointer (some ⟨p, 0, none⟩))).run Tryz.prog w = .ok (.agg (msr r)) w := by
  rw [ldMsg, h]
  simp [msr_sz, msr_ex]
theorem ldTxr {w : World} {p : Nat} {r : RdR} {U : TypeId} {fr : Nat × Nat} (h : w.heap[p]? = some (.cells (txr r) U fr)) : (Instr.loadAt 45 (.pointer (some ⟨p, 0, none⟩))).run Tryz.prog w = .ok (.agg (txr r)) w := by
  rw [ldTc, h]
  simp [txr_size, txr_all]
attribute [local go_sem] txr_size txr_all txr_one txr_one'
set_option maxRecDepth 20000 in
set_option maxHeartbeats 6400000 in
theorem rpget_c {a : Option Addr} {l : List UInt8} {c : Nat} (w : World) (hl : SlAt uc 1 w a l) (hc : l.length ≤ c) (hn : a = none → c = 0) (hln : l.length ≤ 900000) (hin : ∀ x, a = some x → x.block < w.heap.size) :
    Calls Tryz.prog 31 #[.slice a l.length c] w (RpgetP w l) := by
  have HL := Lib.hid (And.intro hl (And.intro hc (And.intro hn (And.intro hln hin))))
  obtain ⟨ll, hll⟩ : ∃ ll, l.length = ll := ⟨_, rfl⟩
  have HLL := Lib.hid hll
  have hlb : ll ≤ 900000 := by omega
  rw [hll]
  obtain ⟨n, took, er, hg⟩ : ∃ n took er, gsh 0 0 l = (n, took, er) := ⟨_, _, _, rfl⟩
  have HG := Lib.hid hg
  clear hl hc hn hln hin hll hg
  go_enter Tryz.func31, Tryz.ntmps31
  go_upto_region 0 with fail
  refine wp_pass0 (C := fun _ _ _ => False) (κ := fun i => [3, 0, 0].getD i 0) [0, 1, 2] (by kernel_rfl) (by kernel_rfl) (fun _ _ d _ _ h => by cases d <;> first | exact h | exact absurd h (hP _ _ _)) ?_
  (refine TD.allocB (by simp only [zA, zB, zC]; rfl) rfl ?hw1 rfl rfl alTc (fun p2 hp2 => ?hn1); (case hw1 => rfl); (try simp only [Act.put, zF, zG, zH]))
  (refine TD.val0 (v := ?v2) (by simp only [zA, zB, zC]; rfl) rfl ?hw2 (fun w1 => ?hy2) ?hn2; (case hw2 => rfl); (case hy2 => (go_simp; (try with_reducible rfl))); (try simp only [Act.put, zF, zG, zH]))
  (refine TD.val0 (v := ?v3) (by simp only [zA, zB, zC]; rfl) rfl ?hw3 (fun w1 => ?hy3) ?hn3; (case hw3 => rfl); (case hy3 => (go_simp; (try with_reducible rfl))); (try simp only [Act.put, zF, zG, zH]))
  refine TD.nil (fun w1 hr => ?_)
  have kp2 := hr.box p2 _ (by first | exact Bx.set_same _ _ _ | (simp only [Bx.set_same]; rfl)); dsimp only [Value.cells] at kp2; obtain ⟨gp2, kp2⟩ := kp2
  have m1 := hr.mod
  clear hr
  replace kp2 : w1.heap[p2]? = some (.cells zTc 45 (0, 0)) := kp2
  have hw2 : w.heap.size ≤ p2 := gp2
  have hG := rgsh_c a l c w1 (HL.out.1.mod0 m1) (by have := HL.out.2.2.2.1; omega)
  rw [HLL.out, HG.out] at hG
  have HG1 := Lib.hid hG
  clear hG
  go_wp2_with fail
  go_at_call 61
  refine HG1.out.mono ?_
  rintro e w2 ⟨rfl, m2⟩
  replace kp2 := m2.at0 kp2
  have HM2 := Lib.hid (m1.trans m2)
  clear m1 m2 HG1
  have hb := bTx0
  by_cases he : er = 0
  · subst he
    have hne : ((0 : Int) != 0) = false := rfl
    have hfit := gsh_fit l 0 0 (by decide) (by omega) (by rw [HG.out])
    rw [HG.out] at hfit
    simp only at hfit
    have HFT := Lib.hid hfit
    have htk : took ≤ ll := by have := HLL.out; omega
    have hn65 := hfit.1
    clear hfit
    go_upto_region 4 with fail
    have Lkp2 := lt_size kp2
    refine wp_pass0 (C := fun _ _ _ => False) (κ := fun i => [0, 3, 4].getD i 0) [0, 1, 2] (by kernel_rfl) (by kernel_rfl) (fun _ _ d _ _ h => by cases d <;> first | exact h | exact absurd h (hP _ _ _)) ?_
    (refine TD.build (v := ?v4) (ps := ?p4) (by simp only [zA, zB, zC]; rfl) rfl ?hw4 rfl ?hx4 (fun w1 => ?hy4) ?hn4; (case hw4 => rfl); (case hx4 => (simp only [List.map_toArray, List.map_cons, List.map_nil, Act.eval, zD, zA, zB, zC, zE]; (try rfl))); (case hy4 => (rw [hb]; (try with_reducible rfl))); (try simp only [Act.put, zF, zG, zH]))
    (refine TD.allocB (by simp only [zA, zB, zC]; rfl) rfl ?hw5 rfl rfl alTc (fun p8 hp8 => ?hn5); (case hw5 => rfl); (try simp only [Act.put, zF, zG, zH]))
    (refine TD.storeB (d := ?d6) (T := ?T6) (y := ?y6) (p := ?p6) (b := ?b6) (v := ?v6) (by simp only [zA, zB, zC]; rfl) rfl ?hw6 ?hd6 ?hop6 ?hev6 ?hx6 ?hb6 ?htag6 (fun w1 hb1 => ?hy6) ?hn6; (case hw6 => rfl); (case hd6 => rfl); (case hop6 => rfl); (case hev6 => (simp only [Act.eval, zD, zA, zB, zC, zE]; (try rfl))); (case hx6 => (simp only [Act.eval, zD, zA, zB, zC, zE]; (try rfl))); (case hb6 => first | exact Bx.set_same _ _ _ | (simp only [Bx.set_same]; rfl)); (case hy6 => (go_simp; (try first | with_reducible rfl | (rw [setCell_blk hb1]; rfl)))); (try simp only [Act.put, zF, zG, zH]))
    refine TD.nil (fun w3 hr => ?_)
    replace kp2 := hr.mod.at kp2 (fun h => h)
    have kp8 := hr.box p8 _ (by first | exact Bx.set_same _ _ _ | (simp only [Bx.set_same]; rfl)); dsimp only [Value.cells] at kp8; obtain ⟨gp8, kp8⟩ := kp8
    replace kp8 : w3.heap[p8]? = some (.cells (tcx none 0 0 mc0) 45 (0, 0)) := kp8
    have h28 : p2 ≠ p8 := by have := lt_size kp2; omega
    have h28l : p2 < p8 := by have := lt_size kp2; omega
    have HM3 := Lib.hid (HM2.out.trans hr.mod)
    have hw8 : w.heap.size ≤ p8 := by have := HM2.out.size; omega
    clear hr HM2
    go_wp2_with fail
    go_loopw [6, 9] (fun s6 s9 ws => ∃ (i at_ sc : Nat) (sa : Option Addr) (S : List Sg), i ≤ n ∧ s9 = .int .i64 (i : Int) ∧ s6 = .int .i64 (at_ : Int) ∧ at_ ≤ ll ∧ Hid (S.length = i) ∧ Hid (SlOwn sgc 64 66 ws (p8 + 1) (.slice sa i sc) S) ∧ Hid (Mod (fun _ => False) w ws) ∧ Hid (takeS n (l.drop took) = preS S (takeS (n - i) (l.drop at_))) ∧ ws.heap[p2]? = some (.cells zTc 45 (0, 0)) ∧ ws.heap[p8]? = some (.cells (tcx sa i sc mc0) 45 (0, 0))) (fun _ s9 _ => n - (intOf s9).toNat)
    case atStart => exact ⟨0, took, 0, none, [], by omega, rfl, rfl, htk, Lib.hid rfl, Lib.hid (SlOwn.nil _ _), HM3, Lib.hid (by rw [preS_nil, Nat.sub_zero]), kp2, kp8⟩
    case round =>
      obtain ⟨i, at_, sc, sa, S, hi, rfl, rfl, hat, HSi, HO, HM, HT, kp2, kp8⟩ := hrel
      by_cases hlt : i < n
      · have hd := decide_eq_true hlt
        have HDL : Hid ((l.drop at_).length = ll - at_) := Lib.hid (by rw [List.length_drop, HLL.out])
        obtain ⟨d, hd0⟩ : ∃ d, ll - at_ = d := ⟨_, rfl⟩
        have hdw : IntKind.i64.wrap ((ll : Int) - (at_ : Int)) = (d : Int) := by rw [IntKind.wrap_i64]; omega
        by_cases h64 : d < 64
        · have hdd : decide (d < 64) = true := decide_eq_true h64
          have hdd1 : decide ((d : Int) < 64) = true := decide_eq_true (by omega)
          have HE : Hid (pTx l = .error 5) := Lib.hid (by
            unfold pTx
            rw [HG.out]
            simp only [if_true]
            rw [HT.out, show n - i = (n - (i + 1)) + 1 by omega, preS_none (by rw [HDL.out]; omega)])
          go_upto_region 9 with fail
          have Lkp2 := lt_size kp2
          refine wp_pass0 (C := fun _ _ _ => False) (κ := fun i => [0, 5, 0, 0].getD i 0) [0, 1, 2, 3] (by kernel_rfl) (by kernel_rfl) (fun _ _ d _ _ h => by cases d <;> first | exact h | exact absurd h (hP _ _ _)) ?_
          (refine TD.build (v := ?v7) (ps := ?p7) (by simp only [zA, zB, zC]; rfl) rfl ?hw7 rfl ?hx7 (fun w1 => ?hy7) ?hn7; (case hw7 => rfl); (case hx7 => (simp only [List.map_toArray, List.map_cons, List.map_nil, Act.eval, zD, zA, zB, zC, zE]; (try rfl))); (case hy7 => (rw [hb]; (try with_reducible rfl))); (try simp only [Act.put, zF, zG, zH]))
          refine TD.eff (by simp only [zA, zB, zC]; rfl) rfl (fun w5 hr => ?_)
          replace kp2 := hr.mod.at kp2 (fun h => h)
          have HM5 := Lib.hid (HM.out.then0 hr.mod)
          clear hr
          (refine eff_store (X := ?X9) (Y := ?Y9) (w' := ?w9) (by simp only [zA, zB, zC]; rfl) ?hw9 rfl ?hx9 ?hz9 ?hy9 ?hn9; (case hw9 => rfl); (case hx9 => (simp only [Act.eval, zD, zA, zB, zC, zE]; (try rfl))); (case hz9 => (simp only [Act.eval, zD, zA, zB, zC, zE]; (try rfl))); (case hy9 => (go_simp; (try with_reducible rfl))))
          (first | refine TE.mid_set kp2 (fun wn kp2 mS => ?_) | refine TE.mid_setCell kp2 (fun wn kp2 mS => ?_))
          have HM6 := Lib.hid (HM5.out.then mS (fun i hi e => by omega))
          clear mS
          (refine TE.val0 (v := ?v10) (by simp only [zA, zB, zC]; rfl) ?hw10 (fun w1 => ?hy10) ?hn10; (case hw10 => rfl); (case hy10 => (go_simp; (try with_reducible rfl))); (try simp only [Act.put, zF, zG, zH]))
          (refine TE.val0 (v := ?v11) (by simp only [zA, zB, zC]; rfl) ?hw11 (fun w1 => ?hy11) ?hn11; (case hw11 => rfl); (case hy11 => (go_simp; (try with_reducible rfl))); (try simp only [Act.put, zF, zG, zH]))
          refine TE.nil ?_
          go_wp2_with fail
          refine bodyPost_ret (results_ctt rfl rfl (ldTcZ kp2)) rfl ?_
          unfold RpgetP
          rw [HE.out]
          exact ⟨HM6.out, rfl⟩
        · have hdd : decide (d < 64) = false := decide_eq_false h64
          have hdd1 : decide ((d : Int) < 64) = false := decide_eq_false (by omega)
          obtain ⟨at2, hat2⟩ : ∃ at2, at_ + 64 = at2 := ⟨_, rfl⟩
          have haw : IntKind.i64.wrap ((at_ : Int) + 64) = (at2 : Int) := by rw [IntKind.wrap_i64]; omega
          obtain ⟨sp, hsp, hsat, -, -⟩ := sl_part (P := Tryz.prog) bytesT (c := c) (k := at_) (m := at_ + 64) HL.out.1 (by omega) (by rw [HLL.out]; omega) HL.out.2.1 HL.out.2.2.1
          rw [HLL.out, show at_ + 64 - at_ = 64 by omega, hat2] at hsp
          rw [show at_ + 64 - at_ = 64 by omega] at hsat
          have h64' : 64 ≤ (l.drop at_).length := by rw [HDL.out]; omega
          have hT2 : takeS n (l.drop took) = preS (S ++ [⟨(l.drop at_).take 64, by rw [List.length_take]; omega⟩]) (takeS (n - (i + 1)) (l.drop at2)) := by
            rw [HT.out, show n - i = (n - (i + 1)) + 1 by omega, preS_step h64', List.drop_drop, hat2]
          obtain ⟨x, hx⟩ : ∃ x : Sg, x = ⟨(l.drop at_).take 64, by rw [List.length_take]; omega⟩ := ⟨_, rfl⟩
          rw [← hx] at hT2
          have HT2 := Lib.hid hT2
          have HX : Hid (((l.drop at_).take 64).length = 64 ∧ (((l.drop at_).take 64).map bc).toArray = sgc x) := Lib.hid ⟨by rw [List.length_take]; omega, by rw [hx]; rfl⟩
          have HSA := Lib.hid hsat
          clear hT2 hsat hx h64'
          go_upto_region 10 with fail
          have Lkp2 := lt_size kp2
          have Lkp8 := lt_size kp8
          refine wp_pass0 (C := fun _ _ _ => False) (κ := fun i => [3].getD i 0) [0] (by kernel_rfl) (by kernel_rfl) (fun _ _ d _ _ h => by cases d <;> first | exact h | exact absurd h (hP _ _ _)) ?_
          (refine TD.allocB (by simp only [zA, zB, zC]; rfl) rfl ?hw12 rfl rfl alSg (fun p10 hp10 => ?hn12); (case hw12 => rfl); (try simp only [Act.put, zF, zG, zH]))
          refine TD.nil (fun w5 hr => ?_)
          replace kp2 := hr.mod.at kp2 (fun h => h)
          replace kp8 := hr.mod.at kp8 (fun h => h)
          have kp10 := hr.box p10 _ (by first | exact Bx.set_same _ _ _ | (simp only [Bx.set_same]; rfl)); dsimp only [Value.cells] at kp10; obtain ⟨gp10, kp10⟩ := kp10
          have HM5 := Lib.hid (HM.out.trans hr.mod)
          have HO5 := Lib.hid (HO.out.mod0 hr.mod)
          clear hr
          have hs5 := HSA.out _ (HL.out.1.mod0 HM5.out)
          have hsa := slAll64
          go_upto_region 11 with fail
          have Lkp2 := lt_size kp2
          have Lkp8 := lt_size kp8
          have Lkp10 := lt_size kp10
          refine wp_pass (C := fun _ _ _ => False) (κ := fun i => [0, 0, 0, 0, 0, 0, 5].getD i 0) [0, 1, 2, 3, 4, 5, 6] (by kernel_rfl) (by kernel_rfl) (fun _ _ d _ _ h => by cases d <;> first | exact h | exact absurd h (hP _ _ _)) ?_
          (refine TD.val0 (v := ?v13) (by simp only [zA, zB, zC]; rfl) rfl ?hw13 (fun w1 => ?hy13) ?hn13; (case hw13 => rfl); (case hy13 => (go_simp; (try with_reducible rfl))); (try simp only [Act.put, zF, zG, zH]))
          (refine TD.val0 (v := ?v14) (by simp only [zA, zB, zC]; rfl) rfl ?hw14 (fun w1 => ?hy14) ?hn14; (case hw14 => rfl); (case hy14 => (go_simp; (try with_reducible rfl))); (try simp only [Act.put, zF, zG, zH]))
          (refine TD.val0 (v := ?v15) (by simp only [zA, zB, zC]; rfl) rfl ?hw15 (fun w1 => ?hy15) ?hn15; (case hw15 => rfl); (case hy15 => (go_simp; (try with_reducible rfl))); (try simp only [Act.put, zF, zG, zH]))
          (refine TD.val0 (v := ?v16) (by simp only [zA, zB, zC]; rfl) rfl ?hw16 (fun w1 => ?hy16) ?hn16; (case hw16 => rfl); (case hy16 => (go_simp; (try with_reducible rfl))); (try simp only [Act.put, zF, zG, zH]))
          (refine TD.val0 (v := ?v17) (by simp only [zA, zB, zC]; rfl) rfl ?hw17 (fun w1 => ?hy17) ?hn17; (case hw17 => rfl); (case hy17 => (go_simp; (try with_reducible rfl))); (try simp only [Act.put, zF, zG, zH]))
          (refine TD.slice (by simp only [zA, zB, zC]; rfl) rfl ?hw18 rfl ?hs18 ?hl18 ?hh18 ?hm18 hsp ?hn18; (case hw18 => rfl); (case hs18 => (simp only [Act.eval, zD, zA, zB, zC, zE]; (try rfl))); (case hl18 => first | rfl | (simp only [Option.map_some, Act.eval, zD, zA, zB, zC, zE]; (try rfl))); (case hh18 => first | rfl | (simp only [Option.map_some, Act.eval, zD, zA, zB, zC, zE]; (try rfl))); (case hm18 => rfl); (try simp only [Act.put, zF, zG, zH]))
          refine TD.eff (by simp only [zA, zB, zC]; rfl) rfl (fun w6 hr => ?_)
          replace kp2 := hr.mod.at kp2 (fun h => h)
          replace kp8 := hr.mod.at kp8 (fun h => h)
          replace kp10 := hr.mod.at kp10 (fun h => h)
          have hM6 := HM5.out.trans hr.mod
          have hO6 := HO5.out.mod0 hr.mod
          have hs6 := hs5.mod0 hr.mod
          clear hr hsp hsa hs5
          rcases hs6 with h | ⟨b, o, C, U, fr, rfl, kb, hcc⟩
          · have h1 := HX.out.1
            rw [h] at h1
            cases h1
          have hcp := copy_all (ty := 3) (n1 := 64) (c := c - at_) kp10 zSg_size HX.out.1 kb hcc
          rw [HX.out.2] at hcp
          have h810 : p8 ≠ p10 ∧ p2 ≠ p10 ∧ p8 < p10 := by have := lt_size kp8; have := HM.out.size; omega
          have HO6 := Lib.hid hO6
          have HM6 := Lib.hid hM6
          have hlo := hO6.lt
          clear hcc kb hO6 hM6
          (refine eff_copy (by simp only [zA, zB, zC]; rfl) ?hw20 rfl ?hx20 ?hz20 (hcp) ?hn20; (case hw20 => rfl); (case hx20 => (simp only [Act.eval, zD, zA, zB, zC, zE]; (try rfl))); (case hz20 => (simp only [Act.eval, zD, zA, zB, zC, zE]; (try rfl))); (try simp only [Act.put, zF, zG, zH]))
          refine TE.nil_set kp10 (fun wn kp10 mS => ?_)
          have HM7 := Lib.hid (HM6.out.then mS (fun i hi e => by omega))
          have HO7 := Lib.hid (HO6.out.mod mS (fun g hg e => by have := (HO.out.lt g hg).2; omega))
          replace kp2 := mS.at_ne kp2 h810.2.1
          replace kp8 := mS.at_ne kp8 h810.1
          clear mS hlo hcp
          obtain ⟨w7, rfl⟩ : ∃ w7 : World, w7 = wn := ⟨_, rfl⟩
          have hbs := bsSg x
          go_upto_region 12 with fail
          refine region_seq 7 rfl ?_
          simp only [List.range, List.range.loop]
          (refine sq_val (v := ?v21) (by simp only [zA, zB, zC]; rfl) ?hw21 ?hy21 ?hn21; (case hw21 => rfl); (case hy21 => (go_simp; (try with_reducible rfl))); (try simp only [Act.put, zF, zG, zH]))
          (refine sq_load (v := ?v22) (p := ?p22) (by simp only [zA, zB, zC]; rfl) ?hw22 rfl ?hx22 ?hy22 ?hn22; (case hw22 => rfl); (case hx22 => (simp only [Act.eval, zD, zA, zB, zC, zE]; (try rfl))); (case hy22 => (go_simp; (try with_reducible rfl))); (try simp only [Act.put, zF, zG, zH]))
          (refine sq_load (v := ?v23) (p := ?p23) (by simp only [zA, zB, zC]; rfl) ?hw23 rfl ?hx23 ?hy23 ?hn23; (case hw23 => rfl); (case hx23 => (simp only [Act.eval, zD, zA, zB, zC, zE]; (try rfl))); (case hy23 => (go_simp; (try with_reducible rfl))); (try simp only [Act.put, zF, zG, zH]))
          (refine sq_new (by simp only [zA, zB, zC]; rfl) ?hw24 rfl ?hx24 (hbs _) (fun q45 wn gq45 kq45 mq45 => ?hn24); (case hw24 => rfl); (case hx24 => (simp only [List.map_toArray, List.map_cons, List.map_nil, Act.eval, zD, zA, zB, zC, zE]; (try rfl))); (try simp only [Act.put, zF, zG, zH]))
          have hLi := HSi.out
          have hO2 := HO7.out.mod0 mq45
          have hMq := HM7.out.then0 mq45
          obtain ⟨v8, w8', hap, hO8, m8, hn8⟩ := SlOwn.append sgT (q := [x]) (c := 1) hO2 (SlAt.one kq45 x rfl (sgc_size x)) (by simp only [List.length_singleton]; omega) (by decide) (by have := lt_size kp8; have := mq45.size; omega) 34
          obtain ⟨a8, c8, rfl, -, -⟩ := hO8.at sgT
          have hlen : (S ++ [x]).length = i + 1 := by rw [List.length_append, hLi]; rfl
          have hlo := hO2.lt
          have hM8 := hMq.then m8 (fun j hj e => by have := (hlo j e).1; omega)
          replace kp2 := m8.at (mq45.at0 kp2) (fun e => by have := (hlo _ e).1; omega)
          replace kp8 := m8.at (mq45.at0 kp8) (fun e => by have := (hlo _ e).1; omega)
          have hap2 : (Builtin.append_ #[34, 34] 34 #[.slice sa i sc, .slice (some ⟨q45, 0, none⟩) 1 1]).run Tryz.prog wn = .ok (.slice a8 (i + 1) c8) w8' := by
            have h1 := hap
            rw [hlen] at h1
            exact h1
          rw [hlen] at hO8
          have HF := Lib.hid (And.intro hO8 (And.intro hM8 hlen))
          clear hap hO2 hMq hO8 m8 hn8 hlen hlo hM8 hLi mq45 kq45 gq45 hbs kp10 gp10
          (refine sq_append (by simp only [zA, zB, zC]; rfl) ?hw25 rfl ?hx25 ?hz25 hap2 ?hn25; (case hw25 => rfl); (case hx25 => (simp only [Act.eval, zD, zA, zB, zC, zE]; (try rfl))); (case hz25 => (simp only [Act.eval, zD, zA, zB, zC, zE]; (try rfl))); (try simp only [Act.put, zF, zG, zH]))
          (refine sq_val (v := ?v26) (by simp only [zA, zB, zC]; rfl) ?hw26 ?hy26 ?hn26; (case hw26 => rfl); (case hy26 => (go_simp; (try with_reducible rfl))); (try simp only [Act.put, zF, zG, zH]))
          (refine sq_store (X := ?X27) (Y := ?Y27) (w' := ?w27) (by simp only [zA, zB, zC]; rfl) ?hw27 rfl rfl ?hx27 ?hz27 ?hy27 ?hn27; (case hw27 => rfl); (case hx27 => (simp only [Act.eval, zD, zA, zB, zC, zE]; (try rfl))); (case hz27 => (simp only [Act.eval, zD, zA, zB, zC, zE]; (try rfl))); (case hy27 => (go_simp; (try with_reducible rfl))))
          (first | refine sq_set kp8 (fun wn kp8 mS => ?_) | refine sq_setCell kp8 (fun wn kp8 mS => ?_))
          refine sq_nil ?_
          replace kp8 : wn.heap[p8]? = some (.cells (tcx a8 (i + 1) c8 mc0) 45 (0, 0)) := by
            rw [kp8, tcx_s]
          have HM9 := Lib.hid (HF.out.2.1.then mS (fun i hi e => by omega))
          have HO9 := Lib.hid (HF.out.1.mod mS (fun g hg e => by have := (HF.out.1.lt g hg).1; omega))
          replace kp2 := mS.at_ne kp2 h28
          have HL9 := Lib.hid HF.out.2.2
          clear mS hap2
          go_wp2_with fail
          go_roundw
          case rel => exact ⟨i + 1, at2, c8, a8, S ++ [x], by omega, by go_num, rfl, by omega, HL9, HO9, HM9, HT2, kp2, kp8⟩
          case measure => simp [intOf]; omega
      · have hd := decide_eq_false hlt
        obtain rfl : n = i := by omega
        have hT0 : takeS n (l.drop took) = some (S, l.drop at_) := by
          rw [HT.out, Nat.sub_self, takeS]
          simp [preS]
        have HT2 : Hid (pTx l = pBind (pMsg (l.drop at_) 0) fun m k => .ok (⟨S, m⟩, l.length - (l.drop at_).length + k)) := Lib.hid (by
          unfold pTx
          rw [HG.out]
          simp only [if_true]
          rw [hT0])
        clear hT0 HT
        obtain ⟨sp, hsp, hss, hsb, hsn⟩ := sl_from (P := Tryz.prog) bytesT (c := c) (k := at_) HL.out.1 (by rw [HLL.out]; exact hat) HL.out.2.1 HL.out.2.2.1
        have HDL : Hid ((l.drop at_).length = ll - at_) := Lib.hid (by rw [List.length_drop, HLL.out])
        rw [HLL.out] at hsp
        have hG := rget3_c (a := sp) (l := l.drop at_) (c := c - at_) _ (hss _ (HL.out.1.mod0 HM.out)) (by rw [HDL.out]; have := HL.out.2.1; have := HLL.out; omega) (fun e => by have := HL.out.2.2.1 (hsn e); omega) (by rw [HDL.out]; omega) (fun x e => by
          obtain ⟨y, hy, hyx⟩ := hsb x e
          have := HL.out.2.2.2.2 y hy
          have := HM.out.size
          omega)
        rw [HDL.out] at hG
        have hp8 := lt_size kp8
        have HP8 := Lib.hid hp8
        clear hss hsb hsn hp8
        go_upto_region 14 with fail
        refine region_seq 12 rfl ?_
        simp only [List.range, List.range.loop]
        (refine sq_val (v := ?v28) (by simp only [zA, zB, zC]; rfl) ?hw28 ?hy28 ?hn28; (case hw28 => rfl); (case hy28 => (go_simp; (try with_reducible rfl))); (try simp only [Act.put, zF, zG, zH]))
        (refine sq_val (v := ?v29) (by simp only [zA, zB, zC]; rfl) ?hw29 ?hy29 ?hn29; (case hw29 => rfl); (case hy29 => (go_simp; (try with_reducible rfl))); (try simp only [Act.put, zF, zG, zH]))
        (refine sq_slice1 (by simp only [zA, zB, zC]; rfl) ?hw30 rfl ?hx30 ?hz30 (hsp _) ?hn30; (case hw30 => rfl); (case hx30 => (simp only [Act.eval, zD, zA, zB, zC, zE]; (try rfl))); (case hz30 => (simp only [Act.eval, zD, zA, zB, zC, zE]; (try rfl))); (try simp only [Act.put, zF, zG, zH]))
        (refine sq_callT (by simp only [zA, zB, zC]; rfl) ?hw31 ?hy31 hG ?hout (fun vn wn hR => ?hret) (fun ch wn hR => ?hpan); (case hw31 => rfl); (case hy31 => (go_simp; (try (first | with_reducible rfl | (constructor <;> with_reducible rfl))))))
        case hout => exact fun w' h => h.noOut
        case hpan => exact hR.noPan.elim
        case hret =>
        obtain ⟨hm, hr⟩ := hR
        clear hG hsp
        have HO2 := Lib.hid (HO.out.mod0 hm)
        have HM2 := Lib.hid (HM.out.trans hm)
        replace kp2 := hm.at0 kp2
        replace kp8 := hm.at0 kp8
        cases hres : pMsg (l.drop at_) 0 with
        | error e0 =>
          rw [hres] at hr
          simp only at hr
          cases hr
          have HE : Hid (pTx l = .error e0) := Lib.hid (HT2.out.trans (pBind_err hres))
          have he0 : ((e0 : Int) != 0) = true := by
            have h1 := NE.msg (l.drop at_) 0
            rw [NE, hres] at h1
            simpa using fun e => h1 (by rw [e])
          (try simp only [Act.put, zF, zG, zH])
          clear hm
          obtain ⟨w4, rfl⟩ : ∃ w4 : World, w4 = wn := ⟨_, rfl⟩
          (refine sq_val (v := ?v32) (by simp only [zA, zB, zC]; rfl) ?hw32 ?hy32 ?hn32; (case hw32 => rfl); (case hy32 => (go_simp; (try with_reducible rfl))); (try simp only [Act.put, zF, zG, zH]))
          (refine sq_val (v := ?v33) (by simp only [zA, zB, zC]; rfl) ?hw33 ?hy33 ?hn33; (case hw33 => rfl); (case hy33 => (go_simp; (try with_reducible rfl))); (try simp only [Act.put, zF, zG, zH]))
          (refine sq_val (v := ?v34) (by simp only [zA, zB, zC]; rfl) ?hw34 ?hy34 ?hn34; (case hw34 => rfl); (case hy34 => (go_simp; (try with_reducible rfl))); (try simp only [Act.put, zF, zG, zH]))
          (refine sq_val (v := ?v35) (by simp only [zA, zB, zC]; rfl) ?hw35 ?hy35 ?hn35; (case hw35 => rfl); (case hy35 => (go_simp; (try with_reducible rfl))); (try simp only [Act.put, zF, zG, zH]))
          (refine sq_alloc (by simp only [zA, zB, zC]; rfl) ?hw36 rfl alMsg (fun p11 wn gp11 kp11 mp11 => ?hn36); (case hw36 => rfl); (try simp only [Act.put, zF, zG, zH]))
          (refine sq_store (X := ?X37) (Y := ?Y37) (w' := ?w37) (by simp only [zA, zB, zC]; rfl) ?hw37 rfl rfl ?hx37 ?hz37 ?hy37 ?hn37; (case hw37 => rfl); (case hx37 => (simp only [Act.eval, zD, zA, zB, zC, zE]; (try rfl))); (case hz37 => (simp only [Act.eval, zD, zA, zB, zC, zE]; (try rfl))); (case hy37 => (go_simp; (try with_reducible rfl))))
          (first | refine sq_set kp11 (fun wn kp11 mS => ?_) | refine sq_setCell kp11 (fun wn kp11 mS => ?_))
          (refine sq_val (v := ?v38) (by simp only [zA, zB, zC]; rfl) ?hw38 ?hy38 ?hn38; (case hw38 => rfl); (case hy38 => (go_simp; (try with_reducible rfl))); (try simp only [Act.put, zF, zG, zH]))
          (refine sq_val (v := ?v39) (by simp only [zA, zB, zC]; rfl) ?hw39 ?hy39 ?hn39; (case hw39 => rfl); (case hy39 => (go_simp; (try with_reducible rfl))); (try simp only [Act.put, zF, zG, zH]))
          refine sq_nil ?_
          have HM5 : Hid (Mod (fun _ => False) w wn) := Lib.hid ((HM2.out.trans mp11).then mS (fun i hi e => by have := HM2.out.size; omega))
          replace kp2 := mS.at_ne (mp11.at0 kp2) (by have := lt_size kp2; omega)
          clear mS mp11 kp11 kp8
          obtain ⟨w5, rfl⟩ : ∃ w5 : World, w5 = wn := ⟨_, rfl⟩
          go_upto_region 16 with fail
          have Lkp2 := lt_size kp2
          refine wp_pass0 (C := fun _ _ _ => False) (κ := fun i => [0, 0, 5, 0, 0].getD i 0) [0, 1, 2, 3, 4] (by kernel_rfl) (by kernel_rfl) (fun _ _ d _ _ h => by cases d <;> first | exact h | exact absurd h (hP _ _ _)) ?_
          (refine TD.build (v := ?v40) (ps := ?p40) (by simp only [zA, zB, zC]; rfl) rfl ?hw40 rfl ?hx40 (fun w1 => ?hy40) ?hn40; (case hw40 => rfl); (case hx40 => (simp only [List.map_toArray, List.map_cons, List.map_nil, Act.eval, zD, zA, zB, zC, zE]; (try rfl))); (case hy40 => (rw [hb]; (try with_reducible rfl))); (try simp only [Act.put, zF, zG, zH]))
          (refine TD.val0 (v := ?v41) (by simp only [zA, zB, zC]; rfl) rfl ?hw41 (fun w1 => ?hy41) ?hn41; (case hw41 => rfl); (case hy41 => (go_simp; (try with_reducible rfl))); (try simp only [Act.put, zF, zG, zH]))
          refine TD.eff (by simp only [zA, zB, zC]; rfl) rfl (fun w6 hr => ?_)
          replace kp2 := hr.mod.at kp2 (fun h => h)
          have HM6 := Lib.hid (HM5.out.then0 hr.mod)
          clear hr
          (refine eff_store (X := ?X43) (Y := ?Y43) (w' := ?w43) (by simp only [zA, zB, zC]; rfl) ?hw43 rfl ?hx43 ?hz43 ?hy43 ?hn43; (case hw43 => rfl); (case hx43 => (simp only [Act.eval, zD, zA, zB, zC, zE]; (try rfl))); (case hz43 => (simp only [Act.eval, zD, zA, zB, zC, zE]; (try rfl))); (case hy43 => (go_simp; (try with_reducible rfl))))
          (first | refine TE.mid_set kp2 (fun wn kp2 mS => ?_) | refine TE.mid_setCell kp2 (fun wn kp2 mS => ?_))
          have HM7 := Lib.hid (HM6.out.then mS (fun i hi e => by omega))
          clear mS
          (refine TE.val0 (v := ?v44) (by simp only [zA, zB, zC]; rfl) ?hw44 (fun w1 => ?hy44) ?hn44; (case hw44 => rfl); (case hy44 => (go_simp; (try with_reducible rfl))); (try simp only [Act.put, zF, zG, zH]))
          (refine TE.val0 (v := ?v45) (by simp only [zA, zB, zC]; rfl) ?hw45 (fun w1 => ?hy45) ?hn45; (case hw45 => rfl); (case hy45 => (go_simp; (try with_reducible rfl))); (try simp only [Act.put, zF, zG, zH]))
          refine TE.nil ?_
          go_wp2_with fail
          refine bodyPost_ret (results_ctt rfl rfl (ldTcZ kp2)) rfl ?_
          unfold RpgetP
          rw [HE.out]
          exact ⟨HM7.out, rfl⟩
        | ok y =>
          obtain ⟨x, k1⟩ := y
          rw [hres] at hr
          obtain ⟨r, hv0, hv, hrx⟩ := hr
          cases hv0
          have hkb := (PO.msg _ _ hres).1
          rw [HDL.out] at hkb
          obtain ⟨kk, hkk⟩ : ∃ kk, at_ + k1 = kk := ⟨_, rfl⟩
          have hkw : IntKind.i64.wrap ((at_ : Int) + (k1 : Int)) = (kk : Int) := by rw [IntKind.wrap_i64]; omega
          have HE : Hid (pTx l = .ok (⟨S, x⟩, kk)) := Lib.hid (by
            rw [HT2.out, pBind_ok hres, HLL.out, HDL.out, show ll - (ll - at_) + k1 = kk by omega])
          have HV := Lib.hid hv
          have HRX := Lib.hid hrx
          (try simp only [Act.put, zF, zG, zH])
          have HMm := Lib.hid hm
          clear hm hv hrx hkk hkb
          obtain ⟨w4, rfl⟩ : ∃ w4 : World, w4 = wn := ⟨_, rfl⟩
          (refine sq_val (v := ?v46) (by simp only [zA, zB, zC]; rfl) ?hw46 ?hy46 ?hn46; (case hw46 => rfl); (case hy46 => (go_simp; (try with_reducible rfl))); (try simp only [Act.put, zF, zG, zH]))
          (refine sq_val (v := ?v47) (by simp only [zA, zB, zC]; rfl) ?hw47 ?hy47 ?hn47; (case hw47 => rfl); (case hy47 => (go_simp; (try with_reducible rfl))); (try simp only [Act.put, zF, zG, zH]))
          (refine sq_val (v := ?v48) (by simp only [zA, zB, zC]; rfl) ?hw48 ?hy48 ?hn48; (case hw48 => rfl); (case hy48 => (go_simp; (try with_reducible rfl))); (try simp only [Act.put, zF, zG, zH]))
          (refine sq_val (v := ?v49) (by simp only [zA, zB, zC]; rfl) ?hw49 ?hy49 ?hn49; (case hw49 => rfl); (case hy49 => (go_simp; (try with_reducible rfl))); (try simp only [Act.put, zF, zG, zH]))
          (refine sq_alloc (by simp only [zA, zB, zC]; rfl) ?hw50 rfl alMsg (fun p11 wn gp11 kp11 mp11 => ?hn50); (case hw50 => rfl); (try simp only [Act.put, zF, zG, zH]))
          (refine sq_store (X := ?X51) (Y := ?Y51) (w' := ?w51) (by simp only [zA, zB, zC]; rfl) ?hw51 rfl rfl ?hx51 ?hz51 ?hy51 ?hn51; (case hw51 => rfl); (case hx51 => (simp only [Act.eval, zD, zA, zB, zC, zE]; (try rfl))); (case hz51 => (simp only [Act.eval, zD, zA, zB, zC, zE]; (try rfl))); (case hy51 => (go_simp; (try with_reducible rfl))))
          (first | refine sq_set kp11 (fun wn kp11 mS => ?_) | refine sq_setCell kp11 (fun wn kp11 mS => ?_))
          (refine sq_val (v := ?v52) (by simp only [zA, zB, zC]; rfl) ?hw52 ?hy52 ?hn52; (case hw52 => rfl); (case hy52 => (go_simp; (try with_reducible rfl))); (try simp only [Act.put, zF, zG, zH]))
          (refine sq_val (v := ?v53) (by simp only [zA, zB, zC]; rfl) ?hw53 ?hy53 ?hn53; (case hw53 => rfl); (case hy53 => (go_simp; (try with_reducible rfl))); (try simp only [Act.put, zF, zG, zH]))
          refine sq_nil ?_
          replace kp11 : wn.heap[p11]? = some (.cells (msr r) 43 (0, 0)) := kp11
          have m45 : Mod (fun _ => False) w4 wn := mp11.then mS (fun i hi e => by omega)
          have h811 : p8 ≠ p11 := by have := lt_size kp8; omega
          have HM5 := Lib.hid (HM2.out.trans m45)
          have HO5 := Lib.hid (HO2.out.mod0 m45)
          have HV5 := Lib.hid (HV.out.mod m45 (fun _ _ _ _ _ h => h))
          replace kp2 := m45.at0 kp2
          replace kp8 := m45.at0 kp8
          clear mS mp11 m45
          obtain ⟨w5, rfl⟩ : ∃ w5 : World, w5 = wn := ⟨_, rfl⟩
          have H85 := Lib.hid kp8
          have hld := fun w' h => ldMsr (w := w') (p := p11) (r := r) (U := 43) (fr := (0, 0)) h
          go_upto_region 17 with fail
          have Lkp2 := lt_size kp2
          have Lkp8 := lt_size kp8
          have Lkp11 := lt_size kp11
          refine wp_pass0 (C := fun _ _ _ => False) (κ := fun i => [1, 0, 5].getD i 0) [0, 1, 2] (by kernel_rfl) (by kernel_rfl) (fun _ _ d _ _ h => by cases d <;> first | exact h | exact absurd h (hP _ _ _)) ?_
          (refine TD.load (v := ?v54) (p := ?p54) (Mod.refl _ _) (by simp only [zA, zB, zC]; rfl) rfl ?hw54 rfl ?hx54 (fun wq hSq => ?hy54) ?hn54; (case hw54 => rfl); (case hx54 => (simp only [Act.eval, zD, zA, zB, zC, zE]; (try rfl))); (case hy54 => (have kp2q := hSq.at kp2 (fun h => h); have kp8q := hSq.at kp8 (fun h => h); have kp11q := hSq.at kp11 (fun h => h); exact (hld _ kp11q))); (try simp only [Act.put, zF, zG, zH]))
          (refine TD.val0 (v := ?v55) (by simp only [zA, zB, zC]; rfl) rfl ?hw55 (fun w1 => ?hy55) ?hn55; (case hw55 => rfl); (case hy55 => (go_simp; (try with_reducible rfl))); (try simp only [Act.put, zF, zG, zH]))
          refine TD.eff (by simp only [zA, zB, zC]; rfl) rfl (fun wE hr => ?_)
          replace kp2 := hr.mod.at0 kp2
          replace kp8 := hr.mod.at0 kp8
          replace kp11 := hr.mod.at0 kp11
          have mE := hr.mod
          (refine eff_store (X := ?X56) (Y := ?Y56) (w' := ?w56) (by simp only [zA, zB, zC]; rfl) ?hw56 rfl ?hx56 ?hz56 ?hy56 ?hn56; (case hw56 => rfl); (case hx56 => (simp only [Act.eval, zD, zA, zB, zC, zE]; (try rfl))); (case hz56 => (simp only [Act.eval, zD, zA, zB, zC, zE]; (try rfl))); (case hy56 => (go_simp; (try with_reducible rfl))))
          (first | refine TE.nil_set kp8 (fun w6 kp8 mS => ?_) | refine TE.nil_setCell kp8 (fun w6 kp8 mS => ?_))
          replace kp2 := mS.at_ne kp2 (by omega)
          replace kp11 := mS.at_ne kp11 (by omega)
          replace kp8 : w6.heap[p8]? = some (.cells (txr { r with sg := ⟨sa, S, sc⟩ }) 45 (0, 0)) := by
            rw [kp8]
            first | rw [tcx_m sa sc S mc0 r HSi.out] | simp [tcx_m sa sc S mc0 r HSi.out]
          obtain ⟨rr, hrr⟩ : ∃ rr : RdR, rr = { r with sg := ⟨sa, S, sc⟩ } := ⟨_, rfl⟩
          rw [← hrr] at kp8
          have m6 := (mE.mono (T := fun i => i = p8) (fun _ _ h => h.elim)).trans mS
          have HM6 := Lib.hid (HM5.out.then m6 (fun i hi e => by omega))
          have HO6 := Lib.hid (HO5.out.mod m6 (fun g hg e => by have := (HO5.out.lt g hg).1; omega))
          have HK8 := Lib.hid kp8
          have HV6 := Lib.hid (HV5.out.mod m6 (fun g C E hk hE e => ty_ne H85.out hk (by rcases hE with rfl | rfl | rfl | rfl <;> decide) e))
          have HRR := Lib.hid hrr
          clear mE mS m6 hr hrr kp11
          have hldT := fun w' h => ldTxr (w := w') (p := p8) (r := rr) (U := 45) (fr := (0, 0)) h
          go_upto_region 18 with fail
          have Lkp2 := lt_size kp2
          have Lkp8 := lt_size kp8
          refine wp_pass0 (C := fun _ _ _ => False) (κ := fun i => [1, 0, 0, 0, 5, 0, 0].getD i 0) [0, 1, 2, 3, 4, 5, 6] (by kernel_rfl) (by kernel_rfl) (fun _ _ d _ _ h => by cases d <;> first | exact h | exact absurd h (hP _ _ _)) ?_
          (refine TD.load (v := ?v57) (p := ?p57) (Mod.refl _ _) (by simp only [zA, zB, zC]; rfl) rfl ?hw57 rfl ?hx57 (fun wq hSq => ?hy57) ?hn57; (case hw57 => rfl); (case hx57 => (simp only [Act.eval, zD, zA, zB, zC, zE]; (try rfl))); (case hy57 => (have kp2q := hSq.at kp2 (fun h => h); have kp8q := hSq.at kp8 (fun h => h); exact (hldT _ kp8q))); (try simp only [Act.put, zF, zG, zH]))
          (refine TD.val0 (v := ?v58) (by simp only [zA, zB, zC]; rfl) rfl ?hw58 (fun w1 => ?hy58) ?hn58; (case hw58 => rfl); (case hy58 => (go_simp; (try with_reducible rfl))); (try simp only [Act.put, zF, zG, zH]))
          (refine TD.val0 (v := ?v59) (by simp only [zA, zB, zC]; rfl) rfl ?hw59 (fun w1 => ?hy59) ?hn59; (case hw59 => rfl); (case hy59 => (go_simp; (try with_reducible rfl))); (try simp only [Act.put, zF, zG, zH]))
          (refine TD.val0 (v := ?v60) (by simp only [zA, zB, zC]; rfl) rfl ?hw60 (fun w1 => ?hy60) ?hn60; (case hw60 => rfl); (case hy60 => (go_simp; (try with_reducible rfl))); (try simp only [Act.put, zF, zG, zH]))
          refine TD.eff (by simp only [zA, zB, zC]; rfl) rfl (fun w7 hr => ?_)
          replace kp2 := hr.mod.at kp2 (fun h => h)
          replace kp8 := hr.mod.at kp8 (fun h => h)
          have HM7 := Lib.hid (HM6.out.then0 hr.mod)
          have HO7 := Lib.hid (HO6.out.mod0 hr.mod)
          have HV7 := Lib.hid (HV6.out.mod hr.mod (fun _ _ _ _ _ h => h))
          have HK2 := Lib.hid kp2
          clear hr hldT
          (refine eff_store (X := ?X62) (Y := ?Y62) (w' := ?w62) (by simp only [zA, zB, zC]; rfl) ?hw62 rfl ?hx62 ?hz62 ?hy62 ?hn62; (case hw62 => rfl); (case hx62 => (simp only [Act.eval, zD, zA, zB, zC, zE]; (try rfl))); (case hz62 => (simp only [Act.eval, zD, zA, zB, zC, zE]; (try rfl))); (case hy62 => (go_simp; (try with_reducible rfl))))
          (first | refine TE.mid_set kp2 (fun wn kp2 mS => ?_) | refine TE.mid_setCell kp2 (fun wn kp2 mS => ?_))
          replace kp2 : wn.heap[p2]? = some (.cells (txr rr) 45 (0, 0)) := kp2
          have HM8 := Lib.hid (HM7.out.then mS (fun i hi e => by omega))
          have HO8 := Lib.hid (HO7.out.mod mS (fun g hg e => by have := (HO7.out.lt g hg).1; omega))
          have HV8 := Lib.hid (HV7.out.mod mS (fun g C E hk hE e => ty_ne HK2.out hk (by rcases hE with rfl | rfl | rfl | rfl <;> decide) e))
          clear mS
          (refine TE.val0 (v := ?v63) (by simp only [zA, zB, zC]; rfl) ?hw63 (fun w1 => ?hy63) ?hn63; (case hw63 => rfl); (case hy63 => (go_simp; (try with_reducible rfl))); (try simp only [Act.put, zF, zG, zH]))
          (refine TE.val0 (v := ?v64) (by simp only [zA, zB, zC]; rfl) ?hw64 (fun w1 => ?hy64) ?hn64; (case hw64 => rfl); (case hy64 => (go_simp; (try with_reducible rfl))); (try simp only [Act.put, zF, zG, zH]))
          refine TE.nil ?_
          go_wp2_with fail
          refine bodyPost_ret (results_ctt rfl rfl (ldTxr kp2)) rfl ?_
          unfold RpgetP
          rw [HE.out]
          have hb1 : w.heap.size ≤ p8 + 1 := by omega
          refine ⟨HM8.out, rr, rfl, ?_, ?_⟩
          · rw [HRR.out]
            refine ⟨?_, HV8.out.base HM.out.size⟩
            show SlOwn sgc 64 66 wn w.heap.size (.slice sa S.length sc) S
            rw [HSi.out]
            exact HO8.out.low hb1
          · rw [HRR.out]
            show (⟨S, msgP r⟩ : TxP) = ⟨S, x⟩
            rw [HRX.out]
  · have HE : Hid (pTx l = .error er) := Lib.hid (by
      unfold pTx
      rw [HG.out]
      simp only
      rw [if_neg he])
    have hne : ((er : Int) != 0) = true := by simpa using he
    go_upto_region 3 with fail
    have Lkp2 := lt_size kp2
    refine wp_pass0 (C := fun _ _ _ => False) (κ := fun i => [0, 0, 5, 0, 0].getD i 0) [0, 1, 2, 3, 4] (by kernel_rfl) (by kernel_rfl) (fun _ _ d _ _ h => by cases d <;> first | exact h | exact absurd h (hP _ _ _)) ?_
    (refine TD.build (v := ?v65) (ps := ?p65) (by simp only [zA, zB, zC]; rfl) rfl ?hw65 rfl ?hx65 (fun w1 => ?hy65) ?hn65; (case hw65 => rfl); (case hx65 => (simp only [List.map_toArray, List.map_cons, List.map_nil, Act.eval, zD, zA, zB, zC, zE]; (try rfl))); (case hy65 => (rw [hb]; (try with_reducible rfl))); (try simp only [Act.put, zF, zG, zH]))
    (refine TD.val0 (v := ?v66) (by simp only [zA, zB, zC]; rfl) rfl ?hw66 (fun w1 => ?hy66) ?hn66; (case hw66 => rfl); (case hy66 => (go_simp; (try with_reducible rfl))); (try simp only [Act.put, zF, zG, zH]))
    refine TD.eff (by simp only [zA, zB, zC]; rfl) rfl (fun w6 hr => ?_)
    replace kp2 := hr.mod.at kp2 (fun h => h)
    have HM6 := Lib.hid (HM2.out.then0 hr.mod)
    clear hr
    (refine eff_store (X := ?X68) (Y := ?Y68) (w' := ?w68) (by simp only [zA, zB, zC]; rfl) ?hw68 rfl ?hx68 ?hz68 ?hy68 ?hn68; (case hw68 => rfl); (case hx68 => (simp only [Act.eval, zD, zA, zB, zC, zE]; (try rfl))); (case hz68 => (simp only [Act.eval, zD, zA, zB, zC, zE]; (try rfl))); (case hy68 => (go_simp; (try with_reducible rfl))))
    (first | refine TE.mid_set kp2 (fun wn kp2 mS => ?_) | refine TE.mid_setCell kp2 (fun wn kp2 mS => ?_))
    have HM7 := Lib.hid (HM6.out.then mS (fun i hi e => by omega))
    clear mS
    (refine TE.val0 (v := ?v69) (by simp only [zA, zB, zC]; rfl) ?hw69 (fun w1 => ?hy69) ?hn69; (case hw69 => rfl); (case hy69 => (go_simp; (try with_reducible rfl))); (try simp only [Act.put, zF, zG, zH]))
    (refine TE.val0 (v := ?v70) (by simp only [zA, zB, zC]; rfl) ?hw70 (fun w1 => ?hy70) ?hn70; (case hw70 => rfl); (case hy70 => (go_simp; (try with_reducible rfl))); (try simp only [Act.put, zF, zG, zH]))
    refine TE.nil ?_
    go_wp2_with fail
    refine bodyPost_ret (results_ctt rfl rfl (ldTcZ kp2)) rfl ?_
    unfold RpgetP
    rw [HE.out]
    exact ⟨HM7.out, rfl⟩
end Go.Proofs.YtofpnmoeimjnnaaGreat
namespace Go.Proofs.YtofpnmoeimjnnaaGreat
open Go.RowKit
open Go.ChangeMaps (setBlock)
set_option linter.unusedSimpArgs false
set_option linter.unusedVariables false
attribute [local go_sem] cell_blk frozen_blk one_int one_bool one_ptr one_slice one_map Value.cells
attribute [local go_sem ↓] wlKey ldKey stKey wlMsg ldMsg stMsg wlRg ldRg stRg wlTx ldTx stTx wlSg ldSg stSg
attribute [local go_sem] kc_ext kc_one kc_one0 kc_size zKey_size one_slice mgx_size mgx_ext mgx_one mgx_one0 zMsg_size zMsg_all zMsg_all0
attribute [local go_sem] tcx_size tcx_ext tcx_one tcx_one0 txr_size txr_all txr_one txr_one' zTx_size zTc_size zTc_all zTc_all0
theorem NE.tx (l : List UInt8) : NE (pTx l) := by
  unfold pTx
  split
  · split
    · simp [NE]
    · exact (NE.msg _ _).bind fun m k => by simp [NE]
  · rename_i h
    simpa [NE] using h
def TxsO (b : Nat) (w : World) (L : List RdR) : Prop := (∀ x ∈ L, TxO b w x) ∧ L.Pairwise (fun x y => ∀ g ∈ blk x, ∀ h ∈ blk y, g < h)
theorem TxsO.mod {b : Nat} {w w' : World} {L : List RdR} {S : Nat → Prop} (h : TxsO b w L) (hm : Mod S w w') (hS : Apt w S b) : TxsO b w' L := ⟨fun x hx => (h.1 x hx).mod hm hS, h.2⟩
theorem TxsO.snoc {b : Nat} {w w' : World} {L : List RdR} {r : RdR} (h : TxsO b w L) (hm : Mod (fun _ => False) w w') (hb : b ≤ w.heap.size) (hr : TxO w.heap.size w' r) : TxsO b w' (L ++ [r]) := by
  have h1 := h.mod hm (Apt.below (fun _ h => h.elim))
  refine ⟨fun x hx => ?_, ?_⟩
  · rcases List.mem_append.1 hx with hx | hx
    · exact h1.1 x hx
    · rw [List.mem_singleton] at hx
      subst hx
      exact hr.base hb
  · rw [List.pairwise_append]
    refine ⟨h.2, List.pairwise_singleton _ _, fun x hx y hy g hg q hq => ?_⟩
    rw [List.mem_singleton] at hy
    subst hy
    have := ((h.1 x hx).blk g hg).2
    have := (hr.blk q hq).1
    omega
def DecA (w : World) (l : List UInt8) (e : Ending) (w' : World) : Prop := Mod (fun _ => False) w w' ∧ match decP l with
  | some xs => ∃ v L, e = .returned (.tuple #[v, i64n 0]) ∧ NewS txr 40 45 w.heap.size w' v L ∧ TxsO w.heap.size w' L ∧ L.map txP = xs
  | none => e = .returned (.tuple #[.slice none 0 0, i64n 4])
set_option maxRecDepth 20000 in
theorem clipTxs_c (v2 : Value) (w : World) (n : Nat) {a : Option Addr} {c : Nat} (h : ∀ w2, (Instr.sliceAt 25 (.slice a n c) none (some (.int .i64 (n : Int))) (some (.int .i64 (n : Int)))).run Tryz.prog w2 = .ok v2 w2) :
    Calls Tryz.prog 29 #[.slice a n c] w fun e w' => e = .returned v2 ∧ w' = w := by
  go_enter Tryz.func29, Tryz.ntmps29
  go_wp2_with fail
  go_ret
  exact ⟨rfl, rfl⟩
theorem bsTx (x : RdR) (w : World) : (Instr.buildSlice 25 1 #[(0, .agg (txr x))]).run Tryz.prog w = .ok (.slice (some ⟨w.heap.size, 0, none⟩) 1 1) (w.alloc (.cells (txr x) 45)) := by
  obtain ⟨i0, hi, hz0, hz1, hz2⟩ := info_parts (show (Tryz.prog.info? 45).map (fun i => (i.zero, i.size, i.bytes)) = some (some (.agg zTx), 40, 136) by kernel_rfl)
  refine run_buildSlice w _ _ 1 _ _ i0 _ Tryz.underlying25 hi hz0 (by rw [hz1]; omega) (by rw [hz1]; omega) ?_
  rw [hz1]
  show Instr.fill _ _ [(0, _)] = _
  rw [fill_cons (off := 0) (n := 40) rfl (by simp [Value.cells, txr_size]) (by simp [Value.cells, zTx_size, size_madeCells])]
  show some (wr _ 0 (txr x).toList) = _
  rw [wr_whole (txr x) _ (by simp [Value.cells, zTx_size, size_madeCells, txr_size])]
set_option maxRecDepth 20000 in
set_option maxHeartbeats 3200000 in
theorem decode_c {a : Option Addr} {l : List UInt8} {c : Nat} (w : World) (hl : SlAt uc 1 w a l) (hc : l.length ≤ c) (hn : a = none → c = 0) (hln : l.length ≤ 900000) (hin : ∀ x, a = some x → x.block < w.heap.size) :
    Calls Tryz.prog 7 #[.slice a l.length c] w (DecA w l) := by
  have HL := Lib.hid (And.intro hl (And.intro hc (And.intro hn (And.intro hln hin))))
  obtain ⟨ll, hll⟩ : ∃ ll, l.length = ll := ⟨_, rfl⟩
  have HLL := Lib.hid hll
  rw [hll] at hln ⊢
  have hG := getN_c a l c 8 w hl (by omega) (by omega)
  rw [hll] at hG
  obtain ⟨m, er, hg⟩ : ∃ m er, getN l 8 = (m, er) := ⟨_, _, rfl⟩
  rw [hg] at hG
  have HG := Lib.hid (And.intro hg hG)
  clear hl hc hn hln hin hll hg hG
  go_enter Tryz.func7, Tryz.ntmps7
  go_wp2_with fail
  go_at_call 27
  refine HG.out.2.mono ?_
  rintro e w1 ⟨rfl, m1⟩
  have HM1 := Lib.hid m1
  clear m1
  by_cases h8 : ll < 8
  · have hg1 : getN l 8 = (0, 5) := by rw [getN, HLL.out, if_pos h8]
    rw [HG.out.1] at hg1
    cases hg1
    have HE : Hid (decP l = none) := Lib.hid (by unfold decP; rw [if_pos (.inl (by rw [HLL.out]; exact h8))])
    clear h8 HG
    go_wp2_with fail
    refine bodyPost_ret (results_tmp2 rfl _ _ _) rfl ?_
    unfold DecA
    rw [HE.out]
    exact ⟨HM1.out, rfl⟩
  · have hg1 : getN l 8 = (leV (l.take 8), 0) := by rw [getN, HLL.out, if_neg h8]
    rw [HG.out.1] at hg1
    injection hg1 with e1 e2
    subst e2
    have HMM := Lib.hid e1
    clear e1 HG
    have hlw : IntKind.u64.wrap (ll : Int) = (ll : Int) := by rw [IntKind.wrap_u64]; have := HL.out.2.2.2.1; have := HLL.out; omega
    by_cases hm0 : m = 0
    · subst hm0
      have HE : Hid (decP l = none) := Lib.hid (by unfold decP; rw [if_pos (.inr HMM.out.symm)])
      go_wp2_with fail
      refine bodyPost_ret (results_tmp2 rfl _ _ _) rfl ?_
      unfold DecA
      rw [HE.out]
      exact ⟨HM1.out, rfl⟩
    · have hm1 : ((m : Int) == 0) = false := by simpa using hm0
      by_cases hbig : ll < m
      · have hd := decide_eq_true hbig
        have hd2 : decide ((m : Int) > (ll : Int)) = true := decide_eq_true (by omega)
        have HE : Hid (decP l = none) := Lib.hid (decP_big (by rw [← HMM.out, HLL.out]; exact hbig))
        go_wp2_with fail
        refine bodyPost_ret (results_tmp2 rfl _ _ _) rfl ?_
        unfold DecA
        rw [HE.out]
        exact ⟨HM1.out, rfl⟩
      · have hd := decide_eq_false hbig
        have hd2 : decide ((m : Int) > (ll : Int)) = false := decide_eq_false (by omega)
        have HP : Hid (decP l = match decL m (l.drop 8) with | some (xs, []) => some xs | _ => none) := Lib.hid (by
          unfold decP
          rw [if_neg (by rw [HLL.out, ← HMM.out]; omega), ← HMM.out]
          rfl)
        obtain ⟨sp, hsp, hss, hsb, hsn⟩ := sl_from (P := Tryz.prog) bytesT (c := c) (k := 8) HL.out.1 (by rw [HLL.out]; omega) HL.out.2.1 HL.out.2.2.1
        have hdl : (l.drop 8).length = ll - 8 := by rw [List.length_drop, HLL.out]
        rw [HLL.out] at hsp
        have HSS := Lib.hid (And.intro hss (And.intro hsb (And.intro hsn hdl)))
        clear hss hsb hsn hdl
        go_upto_region 4 with fail
        refine wp_pass0 (C := fun _ _ _ => False) (κ := fun i => [0, 0, 0].getD i 0) [0, 1, 2] (by kernel_rfl) (by kernel_rfl) (fun _ _ d _ _ h => by cases d <;> first | exact h | exact absurd h (hP _ _ _)) ?_
        (refine TD.val0 (v := ?v1) (by simp only [zA, zB, zC]; rfl) rfl ?hw1 (fun w1 => ?hy1) ?hn1; (case hw1 => rfl); (case hy1 => (go_simp; (try with_reducible rfl))); (try simp only [Act.put, zF, zG, zH]))
        (refine TD.slice (by simp only [zA, zB, zC]; rfl) rfl ?hw2 rfl ?hs2 ?hl2 ?hh2 ?hm2 hsp ?hn2; (case hw2 => rfl); (case hs2 => (simp only [Act.eval, zD, zA, zB, zC, zE]; (try rfl))); (case hl2 => first | rfl | (simp only [Option.map_some, Act.eval, zD, zA, zB, zC, zE]; (try rfl))); (case hh2 => first | rfl | (simp only [Option.map_some, Act.eval, zD, zA, zB, zC, zE]; (try rfl))); (case hm2 => rfl); (try simp only [Act.put, zF, zG, zH]))
        (refine TD.val0 (v := ?v3) (by simp only [zA, zB, zC]; rfl) rfl ?hw3 (fun w1 => ?hy3) ?hn3; (case hw3 => rfl); (case hy3 => (go_simp; (try with_reducible rfl))); (try simp only [Act.put, zF, zG, zH]))
        refine TD.nil (fun w2 hr => ?_)
        have HM2 := Lib.hid (HM1.out.trans hr.mod)
        have hml : m ≤ 900000 := by have := HL.out.2.2.2.1; have := HLL.out; omega
        have h8 : 8 ≤ ll := by omega
        clear hr hsp hlw hm0 hm1 hbig hd hd2
        go_wp2_with fail
        go_loopw [6, 7, 32] (fun s6 s7 s32 ws => ∃ (i nl lc c2 : Nat) (la a2 : Option Addr) (R : List UInt8) (L : List RdR), i ≤ m ∧ s6 = .slice la nl lc ∧ s7 = .slice a2 i c2 ∧ s32 = .int .u64 (i : Int) ∧ Hid (L.length = i ∧ R.length = nl ∧ nl ≤ ll) ∧ Hid (SlOwn txr 40 45 ws w.heap.size (.slice a2 i c2) L) ∧ Hid (TxsO w.heap.size ws L) ∧ Hid (SlAt uc 1 ws la R ∧ nl ≤ lc ∧ (la = none → lc = 0) ∧ ∀ x, la = some x → x.block < w.heap.size) ∧ Hid (Mod (fun _ => False) w ws) ∧ Hid (decL m (l.drop 8) = preD (L.map txP) (decL (m - i) R))) (fun _ _ s32 _ => m - (intOf s32).toNat)
        case atStart =>
          refine ⟨0, ll - 8, c - 8, 0, sp, none, l.drop 8, [], by omega, rfl, rfl, rfl, Lib.hid ⟨rfl, HSS.out.2.2.2, by omega⟩, Lib.hid (SlOwn.nil _ _), Lib.hid ⟨fun _ h => by (cases h), .nil⟩, Lib.hid ⟨HSS.out.1 _ (HL.out.1.mod0 HM2.out), ?_, ?_, ?_⟩, HM2, Lib.hid (by rw [List.map_nil, preD_nil, Nat.sub_zero])⟩
          · have := HL.out.2.1
            have := HLL.out
            omega
          · intro e
            have := HL.out.2.2.1 (HSS.out.2.2.1 e)
            omega
          · intro x e
            obtain ⟨y, hy, hyx⟩ := HSS.out.2.1 x e
            have := HL.out.2.2.2.2 y hy
            omega
        case round =>
          obtain ⟨i, nl, lc, c2, la, a2, R, L, hi, rfl, rfl, rfl, HN, HO, HT, HS, HM, HD⟩ := hrel
          by_cases hlt : i < m
          · have hd := decide_eq_true hlt
            have hG := pget_c wr HS.out.1 (by rw [HN.out.2.1]; exact HS.out.2.1) HS.out.2.2.1 (by have := HL.out.2.2.2.1; have := HLL.out; have := HN.out; omega) (fun x e => Nat.lt_of_lt_of_le (HS.out.2.2.2 x e) HM.out.size)
            rw [HN.out.2.1] at hG
            have ha1 := alTx
            go_upto_region 8 with fail
            refine region_seq 10 rfl ?_
            simp only [List.range, List.range.loop]
            (refine sq_val (v := ?v4) (by simp only [zA, zB, zC]; rfl) ?hw4 ?hy4 ?hn4; (case hw4 => rfl); (case hy4 => (go_simp; (try with_reducible rfl))); (try simp only [Act.put, zF, zG, zH]))
            (refine sq_callT (by simp only [zA, zB, zC]; rfl) ?hw5 ?hy5 hG ?hout (fun vn wn hR => ?hret) (fun ch wn hR => ?hpan); (case hw5 => rfl); (case hy5 => (go_simp; (try (first | with_reducible rfl | (constructor <;> with_reducible rfl))))))
            case hout =>
              intro w' h
              unfold PgetP at h
              split at h
              · obtain ⟨_, _, h, _⟩ := h
                cases h
              · cases h.2
            case hpan =>
              exfalso
              unfold PgetP at hR
              split at hR
              · obtain ⟨_, _, h, _⟩ := hR
                cases h
              · cases hR.2
            case hret =>
            obtain ⟨hm, hr⟩ := hR
            clear hG
            cases hres : pTx R with
            | error e0 =>
              rw [hres] at hr
              simp only at hr
              cases hr
              have he0 : ((e0 : Int) != 0) = true := by
                have h1 := NE.tx R
                rw [NE, hres] at h1
                simpa using fun e => h1 (by rw [e])
              have HE : Hid (decP l = none) := Lib.hid (by rw [HP.out, HD.out, show m - i = (m - (i + 1)) + 1 by omega, preD_err hres])
              have HM3 := Lib.hid (HM.out.trans hm)
              clear hm
              (try simp only [Act.put, zF, zG, zH])
              obtain ⟨w4, rfl⟩ : ∃ w4 : World, w4 = wn := ⟨_, rfl⟩
              (refine sq_val (v := ?v6) (by simp only [zA, zB, zC]; rfl) ?hw6 ?hy6 ?hn6; (case hw6 => rfl); (case hy6 => (go_simp; (try with_reducible rfl))); (try simp only [Act.put, zF, zG, zH]))
              (refine sq_val (v := ?v7) (by simp only [zA, zB, zC]; rfl) ?hw7 ?hy7 ?hn7; (case hw7 => rfl); (case hy7 => (go_simp; (try with_reducible rfl))); (try simp only [Act.put, zF, zG, zH]))
              (refine sq_val (v := ?v8) (by simp only [zA, zB, zC]; rfl) ?hw8 ?hy8 ?hn8; (case hw8 => rfl); (case hy8 => (go_simp; (try with_reducible rfl))); (try simp only [Act.put, zF, zG, zH]))
              (refine sq_val (v := ?v9) (by simp only [zA, zB, zC]; rfl) ?hw9 ?hy9 ?hn9; (case hw9 => rfl); (case hy9 => (go_simp; (try with_reducible rfl))); (try simp only [Act.put, zF, zG, zH]))
              (refine sq_alloc (by simp only [zA, zB, zC]; rfl) ?hw10 rfl alTx (fun p8 wn gp8 kp8 mp8 => ?hn10); (case hw10 => rfl); (try simp only [Act.put, zF, zG, zH]))
              (refine sq_store (X := ?X11) (Y := ?Y11) (w' := ?w11) (by simp only [zA, zB, zC]; rfl) ?hw11 rfl rfl ?hx11 ?hz11 ?hy11 ?hn11; (case hw11 => rfl); (case hx11 => (simp only [Act.eval, zD, zA, zB, zC, zE]; (try rfl))); (case hz11 => (simp only [Act.eval, zD, zA, zB, zC, zE]; (try rfl))); (case hy11 => (go_simp; (try with_reducible rfl))))
              (first | refine sq_set kp8 (fun wn kp8 mS => ?_) | refine sq_setCell kp8 (fun wn kp8 mS => ?_))
              (refine sq_val (v := ?v12) (by simp only [zA, zB, zC]; rfl) ?hw12 ?hy12 ?hn12; (case hw12 => rfl); (case hy12 => (go_simp; (try with_reducible rfl))); (try simp only [Act.put, zF, zG, zH]))
              (refine sq_val (v := ?v13) (by simp only [zA, zB, zC]; rfl) ?hw13 ?hy13 ?hn13; (case hw13 => rfl); (case hy13 => (go_simp; (try with_reducible rfl))); (try simp only [Act.put, zF, zG, zH]))
              refine sq_nil ?_
              have HM5 : Hid (Mod (fun _ => False) w wn) := Lib.hid ((HM3.out.trans mp8).then mS (fun i hi e => by have := HM3.out.size; omega))
              clear mS mp8 kp8
              go_wp2_with fail
              refine bodyPost_ret (results_tmp2 rfl _ _ _) rfl ?_
              unfold DecA
              rw [HE.out]
              exact ⟨HM5.out, rfl⟩
            | ok y =>
              obtain ⟨x, k⟩ := y
              rw [hres] at hr
              obtain ⟨v, hv0, hv, hk1⟩ := hr
              cases hv0
              obtain ⟨r, rfl, hrx, hO⟩ := hv.toO
              have HW4 := Lib.hid hm
              have HM3 := Lib.hid (HM.out.trans hm)
              have HO3 := Lib.hid (HO.out.mod0 hm)
              have HT3 : Hid (TxsO w.heap.size wn (L ++ [r])) := Lib.hid (HT.out.snoc hm HM.out.size hO)
              have HK := Lib.hid (And.intro hk1 hrx)
              clear hv hO hm hk1 hrx
              (try simp only [Act.put, zF, zG, zH])
              obtain ⟨w4, rfl⟩ : ∃ w4 : World, w4 = wn := ⟨_, rfl⟩
              (refine sq_val (v := ?v14) (by simp only [zA, zB, zC]; rfl) ?hw14 ?hy14 ?hn14; (case hw14 => rfl); (case hy14 => (go_simp; (try with_reducible rfl))); (try simp only [Act.put, zF, zG, zH]))
              (refine sq_val (v := ?v15) (by simp only [zA, zB, zC]; rfl) ?hw15 ?hy15 ?hn15; (case hw15 => rfl); (case hy15 => (go_simp; (try with_reducible rfl))); (try simp only [Act.put, zF, zG, zH]))
              (refine sq_val (v := ?v16) (by simp only [zA, zB, zC]; rfl) ?hw16 ?hy16 ?hn16; (case hw16 => rfl); (case hy16 => (go_simp; (try with_reducible rfl))); (try simp only [Act.put, zF, zG, zH]))
              (refine sq_val (v := ?v17) (by simp only [zA, zB, zC]; rfl) ?hw17 ?hy17 ?hn17; (case hw17 => rfl); (case hy17 => (go_simp; (try with_reducible rfl))); (try simp only [Act.put, zF, zG, zH]))
              (refine sq_alloc (by simp only [zA, zB, zC]; rfl) ?hw18 rfl alTx (fun p8 wn gp8 kp8 mp8 => ?hn18); (case hw18 => rfl); (try simp only [Act.put, zF, zG, zH]))
              (refine sq_store (X := ?X19) (Y := ?Y19) (w' := ?w19) (by simp only [zA, zB, zC]; rfl) ?hw19 rfl rfl ?hx19 ?hz19 ?hy19 ?hn19; (case hw19 => rfl); (case hx19 => (simp only [Act.eval, zD, zA, zB, zC, zE]; (try rfl))); (case hz19 => (simp only [Act.eval, zD, zA, zB, zC, zE]; (try rfl))); (case hy19 => (go_simp; (try with_reducible rfl))))
              (first | refine sq_set kp8 (fun wn kp8 mS => ?_) | refine sq_setCell kp8 (fun wn kp8 mS => ?_))
              (refine sq_val (v := ?v20) (by simp only [zA, zB, zC]; rfl) ?hw20 ?hy20 ?hn20; (case hw20 => rfl); (case hy20 => (go_simp; (try with_reducible rfl))); (try simp only [Act.put, zF, zG, zH]))
              (refine sq_val (v := ?v21) (by simp only [zA, zB, zC]; rfl) ?hw21 ?hy21 ?hn21; (case hw21 => rfl); (case hy21 => (go_simp; (try with_reducible rfl))); (try simp only [Act.put, zF, zG, zH]))
              refine sq_nil ?_
              replace kp8 : wn.heap[p8]? = some (.cells (txr r) 45 (0, 0)) := kp8
              have m4 : Mod (fun _ => False) w4 wn := mp8.then mS (fun i hi e => by omega)
              have HMW := Lib.hid (HW4.out.trans m4)
              have HM5 := Lib.hid (HM3.out.trans m4)
              have HO5 := Lib.hid (HO3.out.mod0 m4)
              have HT5 := Lib.hid (HT3.out.mod m4 (Apt.below (fun _ h => h.elim)))
              clear mS mp8 gp8 m4
              obtain ⟨w5, rfl⟩ : ∃ w5 : World, w5 = wn := ⟨_, rfl⟩
              by_cases hk : k ≤ 1232
              · have hd3 : decide ((k : Int) > 1232) = false := decide_eq_false (by omega)
                obtain ⟨la2, hsl, hs2, hb2, hn2⟩ := sl_from (P := Tryz.prog) bytesT (c := lc) (k := k) HS.out.1 HK.out.1 (by rw [HN.out.2.1]; exact HS.out.2.1) HS.out.2.2.1
                obtain ⟨d, hd0⟩ : ∃ d, nl - k = d := ⟨_, rfl⟩
                rw [HN.out.2.1, hd0] at hsl
                have HS2 := Lib.hid (And.intro hs2 (And.intro hb2 (And.intro hn2 hd0)))
                have HD2 : Hid (decL m (l.drop 8) = preD ((L ++ [r]).map txP) (decL (m - (i + 1)) (R.drop k))) := Lib.hid (by rw [HD.out, show m - i = (m - (i + 1)) + 1 by omega, preD_step hres hk, List.map_append, ← HK.out.2]; rfl)
                clear hs2 hb2 hn2 hd0 hres
                have hbs := bsTx r
                go_upto_region 11 with fail
                have Lkp8 := lt_size kp8
                refine wp_pass (C := fun _ _ _ => False) (κ := fun i => [0, 1, 3, 5, 0, 0, 0, 0, 0].getD i 0) [0, 1, 2, 4, 5, 6, 3, 7, 8] (by kernel_rfl) (by kernel_rfl) (fun _ _ d _ _ h => by cases d <;> first | exact h | exact absurd h (hP _ _ _)) ?_
                (refine TD.val0 (v := ?v22) (by simp only [zA, zB, zC]; rfl) rfl ?hw22 (fun w1 => ?hy22) ?hn22; (case hw22 => rfl); (case hy22 => (go_simp; (try with_reducible rfl))); (try simp only [Act.put, zF, zG, zH]))
                (refine TD.load (v := ?v23) (p := ?p23) (Mod.refl _ _) (by simp only [zA, zB, zC]; rfl) rfl ?hw23 rfl ?hx23 (fun wq hSq => ?hy23) ?hn23; (case hw23 => rfl); (case hx23 => (simp only [Act.eval, zD, zA, zB, zC, zE]; (try rfl))); (case hy23 => (have kp8q := hSq.at kp8 (fun h => h); go_simp; (try with_reducible rfl))); (try simp only [Act.put, zF, zG, zH]))
                (refine TD.bslice (by simp only [zA, zB, zC]; rfl) rfl ?hw24 rfl rfl ?hx24 hbs (fun p48 hp48 => ?hn24); (case hw24 => rfl); (case hx24 => (simp only [List.map_toArray, List.map_cons, List.map_nil, Act.eval, zD, zA, zB, zC, zE]; (try rfl))); (try simp only [Act.put, zF, zG, zH]))
                (refine TD.val0 (v := ?v25) (by simp only [zA, zB, zC]; rfl) rfl ?hw25 (fun w1 => ?hy25) ?hn25; (case hw25 => rfl); (case hy25 => (go_simp; (try with_reducible rfl))); (try simp only [Act.put, zF, zG, zH]))
                (refine TD.val0 (v := ?v26) (by simp only [zA, zB, zC]; rfl) rfl ?hw26 (fun w1 => ?hy26) ?hn26; (case hw26 => rfl); (case hy26 => (go_simp; (try with_reducible rfl))); (try simp only [Act.put, zF, zG, zH]))
                (refine TD.slice (by simp only [zA, zB, zC]; rfl) rfl ?hw27 rfl ?hs27 ?hl27 ?hh27 ?hm27 hsl ?hn27; (case hw27 => rfl); (case hs27 => (simp only [Act.eval, zD, zA, zB, zC, zE]; (try rfl))); (case hl27 => first | rfl | (simp only [Option.map_some, Act.eval, zD, zA, zB, zC, zE]; (try rfl))); (case hh27 => first | rfl | (simp only [Option.map_some, Act.eval, zD, zA, zB, zC, zE]; (try rfl))); (case hm27 => rfl); (try simp only [Act.put, zF, zG, zH]))
                refine TD.eff (by simp only [zA, zB, zC]; rfl) rfl (fun w6 hr => ?_)
                replace kp8 := hr.mod.at kp8 (fun h => h)
                have kp48 := hr.box p48 _ (by first | exact Bx.set_same _ _ _ | (simp only [Bx.set_same]; rfl)); dsimp only [Value.cells] at kp48; obtain ⟨gp48, kp48⟩ := kp48
                have m6 := hr.mod
                clear hr hbs hsl
                have HLI := Lib.hid HN.out.1
                have hO2 := ((HO.out.mod0 (HMW.out)).mod0 m6)
                obtain ⟨v7, w7, hap, hO7, m7, hn7⟩ := SlOwn.append txT (q := [r]) (c := 1) hO2 (SlAt.one kp48 r rfl (txr_size _)) (by rw [HLI.out]; simp only [List.length_singleton]; omega) (by decide) (by have := HM5.out.size; have := m6.size; omega) 25
                obtain ⟨a7, c7, rfl, -, -⟩ := hO7.at txT
                have hlen : (L ++ [r]).length = i + 1 := by rw [List.length_append, HLI.out]; rfl
                rw [hlen] at hap hO7
                have hR7 : SlAt uc 1 w7 la2 (R.drop k) := HS2.out.1 _ (HS.out.1.mod (((HMW.out.trans m6).mono (fun _ _ h => h.elim)).trans (m7.mono (T := fun i => w.heap.size ≤ i) (fun j hj e => by have := (hO2.lt j e).1; exact this)) : Mod (fun i => w.heap.size ≤ i) wr w7) (fun b o e => by have := HS.out.2.2.2 _ e; simp only at this ⊢; omega))
                have hlo := hO2.lt
                have hty := own_blk2 hO2
                have HF : Hid (SlOwn txr 40 45 w7 w.heap.size (.slice a7 (i + 1) c7) (L ++ [r]) ∧ TxsO w.heap.size w7 (L ++ [r]) ∧ Mod (fun _ => False) w w7 ∧ (L ++ [r]).length = i + 1 ∧ SlAt uc 1 w7 la2 (R.drop k)) := Lib.hid ⟨hO7, ((HT5.out.mod m6 (Apt.below (fun _ h => h.elim))).mod m7 (fun g C E _ hk hE hs => by
                    obtain ⟨cur, hc⟩ := hty g hs
                    rw [hk] at hc
                    injection hc with hc
                    injection hc with _ hc
                    rw [hc] at hE
                    simp at hE)), (HM5.out.trans m6).then m7 (fun j hj e => by have := (hlo j e).1; omega), hlen, hR7⟩
                clear hO2 hO7 hn7 hlo hty m6 m7 hlen hR7 kp8 kp48 gp48
                (refine eff_append (by simp only [zA, zB, zC]; rfl) ?hw29 rfl ?hx29 ?hz29 hap ?hn29; (case hw29 => rfl); (case hx29 => (simp only [Act.eval, zD, zA, zB, zC, zE]; (try rfl))); (case hz29 => (simp only [Act.eval, zD, zA, zB, zC, zE]; (try rfl))); (try simp only [Act.put, zF, zG, zH]))
                (refine TE.val0 (v := ?v30) (by simp only [zA, zB, zC]; rfl) ?hw30 (fun w1 => ?hy30) ?hn30; (case hw30 => rfl); (case hy30 => (go_simp; (try with_reducible rfl))); (try simp only [Act.put, zF, zG, zH]))
                (refine TE.val0 (v := ?v31) (by simp only [zA, zB, zC]; rfl) ?hw31 (fun w1 => ?hy31) ?hn31; (case hw31 => rfl); (case hy31 => (go_simp; (try with_reducible rfl))); (try simp only [Act.put, zF, zG, zH]))
                refine TE.nil ?_
                go_wp2_with fail
                go_roundw
                case rel =>
                  refine ⟨i + 1, d, lc - k, c7, la2, a7, R.drop k, L ++ [r], by omega, rfl, rfl, by go_num, Lib.hid ⟨HF.out.2.2.2.1, by rw [List.length_drop, HN.out.2.1]; exact HS2.out.2.2.2, by have := HN.out; have := HS2.out.2.2.2; omega⟩, Lib.hid HF.out.1, Lib.hid HF.out.2.1, Lib.hid ⟨HF.out.2.2.2.2, by have := HS.out.2.1; have := HS2.out.2.2.2; omega, fun e => by have := HS.out.2.2.1 (HS2.out.2.2.1 e); omega, fun x e => ?_⟩, Lib.hid HF.out.2.2.1, HD2⟩
                  obtain ⟨y, hy, hyx⟩ := HS2.out.2.1 x e
                  rw [← hyx]
                  exact HS.out.2.2.2 y hy
                case measure => simp [intOf]; omega
              · have hd3 : decide ((k : Int) > 1232) = true := decide_eq_true (by omega)
                have HE : Hid (decP l = none) := Lib.hid (by rw [HP.out, HD.out, show m - i = (m - (i + 1)) + 1 by omega, preD_big hres hk])
                go_wp2_with fail
                refine bodyPost_ret (results_tmp2 rfl _ _ _) rfl ?_
                unfold DecA
                rw [HE.out]
                exact ⟨HM5.out, rfl⟩
          · have hd := decide_eq_false hlt
            obtain rfl : m = i := by omega
            have HE : Hid (decP l = match some (L.map txP, R) with | some (xs, []) => some xs | _ => none) := Lib.hid (by
              have h0 : decL m (l.drop 8) = some (L.map txP, R) := by
                rw [HD.out, Nat.sub_self, decL]
                simp [preD]
              rw [HP.out, h0])
            by_cases h0 : nl = 0
            · subst h0
              obtain rfl : R = [] := List.eq_nil_of_length_eq_zero HN.out.2.1
              obtain ⟨a9, c9, v9, e9, hcl, hnew⟩ := HO.out.clip txT
              obtain ⟨sa9, rfl⟩ := NewS.form2 hnew
              rw [HN.out.1] at hcl hnew
              have HCL := Lib.hid hcl
              have HNW := Lib.hid hnew
              clear e9 hcl hnew
              go_wp2_with fail
              go_at_call 29
              refine (clipTxs_c _ _ _ HCL.out).mono ?_
              rintro e w6 ⟨rfl, rfl⟩
              go_wp2_with fail
              refine bodyPost_ret (results_tmp2 rfl _ _ _) rfl ?_
              unfold DecA
              rw [HE.out]
              exact ⟨HM.out, _, L, rfl, HNW.out, HT.out, rfl⟩
            · have hd4 : decide (0 < nl) = true := decide_eq_true (by omega)
              have hd5 : decide ((nl : Int) > 0) = true := decide_eq_true (by omega)
              have HE2 : Hid (decP l = none) := Lib.hid (by
                rw [HE.out]
                cases R with
                | nil => exact absurd HN.out.2.1.symm h0
                | cons _ _ => rfl)
              go_wp2_with fail
              refine bodyPost_ret (results_tmp2 rfl _ _ _) rfl ?_
              unfold DecA
              rw [HE2.out]
              exact ⟨HM.out, rfl⟩
end Go.Proofs.YtofpnmoeimjnnaaGreat
namespace Go.Proofs.YtofpnmoeimjnnaaGreat
open Go.RowKit
open Go.ChangeMaps (setBlock)
set_option linter.unusedSimpArgs false
set_option linter.unusedVariables false
attribute [local go_sem] cell_blk frozen_blk one_int one_bool one_ptr one_slice one_map Value.cells
attribute [local go_sem ↓] wlKey ldKey stKey wlMsg ldMsg stMsg wlTc ldTc stTc wlSg ldSg stSg
attribute [local go_sem] kc_ext kc_one kc_one0 kc_size zKey_size one_slice mgx_size mgx_ext mgx_one mgx_one0 zMsg_size zMsg_all zMsg_all0
attribute [local go_sem] zTc_size zTc_ext zTc_all zTc_all0 txr_size txr_all txr_one txr_one' zTx_size
theorem RpgetP.noOut {w w' : World} {l : List UInt8} (h : RpgetP w l .outgrown w') : False := by
  unfold RpgetP at h
  split at h
  · obtain ⟨_, _, h, _⟩ := h
    cases h
  · cases h.2
theorem RpgetP.noPan {w w' : World} {l : List UInt8} {ch : List PanicEntry} (h : RpgetP w l (.panicked ch) w') : False := by
  unfold RpgetP at h
  split at h
  · obtain ⟨_, _, h, _⟩ := h
    cases h
  · cases h.2
theorem TxLd.mod {b : Nat} {w w' : World} {r : RdR} {S : Nat → Prop} (h : TxLd b w r) (hm : Mod S w w') (hS : Apt w S 0) : TxLd b w' r :=
  ⟨h.1.mod hm (fun g hg => by obtain ⟨C, hk⟩ := own_blk2 h.1 g hg; exact hS g C _ (Nat.zero_le _) hk (.inl rfl)), h.2.mod hm (fun g C E hk hE => hS g C E (Nat.zero_le _) hk (.inr (by
    rcases hE with h | h | h | h
    · exact .inl h
    · exact .inr (.inl h)
    · exact .inr (.inr (.inl h))
    · exact .inr (.inr (.inr h)))))⟩
theorem TxLd.mod0 {b : Nat} {w w' : World} {r : RdR} (h : TxLd b w r) (hm : Mod (fun _ => False) w w') : TxLd b w' r := h.mod hm (fun _ _ _ _ _ _ h => h)
theorem TxLd.base {b b' : Nat} {w : World} {r : RdR} (h : TxLd b w r) (hb : b' ≤ b) : TxLd b' w r := ⟨h.1.low hb, h.2.base hb⟩
def RdecA (w : World) (l : List UInt8) (e : Ending) (w' : World) : Prop := Mod (fun _ => False) w w' ∧ match decP l with
  | some xs => ∃ a c L, e = .returned (.tuple #[.slice a L.length c, i64n 0]) ∧ SlOwn txr 40 45 w' w.heap.size (.slice a L.length c) L ∧ (∀ r ∈ L, TxLd w.heap.size w' r) ∧ L.map txP = xs
  | none => e = .returned (.tuple #[.slice none 0 0, i64n 4])
set_option maxRecDepth 20000 in
set_option maxHeartbeats 3200000 in
theorem rdecode_c {a : Option Addr} {l : List UInt8} {c : Nat} (w : World) (hl : SlAt uc 1 w a l) (hc : l.length ≤ c) (hn : a = none → c = 0) (hln : l.length ≤ 900000) (hin : ∀ x, a = some x → x.block < w.heap.size) :
    Calls Tryz.prog 8 #[.slice a l.length c] w (RdecA w l) := by
  have HL := Lib.hid (And.intro hl (And.intro hc (And.intro hn (And.intro hln hin))))
  obtain ⟨ll, hll⟩ : ∃ ll, l.length = ll := ⟨_, rfl⟩
  have HLL := Lib.hid hll
  have hlb : ll ≤ 900000 := by omega
  rw [hll]
  have hG := rgetN_c a l c 8 w hl (by omega) (by omega)
  rw [hll] at hG
  obtain ⟨m, er, hg⟩ : ∃ m er, getN l 8 = (m, er) := ⟨_, _, rfl⟩
  rw [hg] at hG
  have HG := Lib.hid (And.intro hg hG)
  clear hl hc hn hln hin hll hg hG
  go_enter Tryz.func8, Tryz.ntmps8
  go_wp2_with fail
  go_at_call 30
  refine HG.out.2.mono ?_
  rintro e w1 ⟨rfl, m1⟩
  have HM1 := Lib.hid m1
  clear m1
  by_cases h8 : ll < 8
  · have hg1 : getN l 8 = (0, 5) := by rw [getN, HLL.out, if_pos h8]
    rw [HG.out.1] at hg1
    cases hg1
    have HE : Hid (decP l = none) := Lib.hid (by unfold decP; rw [if_pos (.inl (by rw [HLL.out]; exact h8))])
    clear h8 HG
    go_wp2_with fail
    refine bodyPost_ret (results_tmp2 rfl _ _ _) rfl ?_
    unfold RdecA
    rw [HE.out]
    exact ⟨HM1.out, rfl⟩
  · have hg1 : getN l 8 = (leV (l.take 8), 0) := by rw [getN, HLL.out, if_neg h8]
    rw [HG.out.1] at hg1
    injection hg1 with e1 e2
    subst e2
    have HMM := Lib.hid e1
    clear e1 HG
    by_cases hm0 : m = 0
    · subst hm0
      have HE : Hid (decP l = none) := Lib.hid (by unfold decP; rw [if_pos (.inr HMM.out.symm)])
      go_wp2_with fail
      refine bodyPost_ret (results_tmp2 rfl _ _ _) rfl ?_
      unfold RdecA
      rw [HE.out]
      exact ⟨HM1.out, rfl⟩
    · have hm1 : ((m : Int) == 0) = false := by simpa using hm0
      have HP : Hid (decP l = match decL m (l.drop 8) with | some (xs, []) => some xs | _ => none) := Lib.hid (by
        unfold decP
        rw [if_neg (by rw [HLL.out, ← HMM.out]; omega), ← HMM.out]
        rfl)
      have h8' : 8 ≤ ll := by omega
      clear hm0 h8
      go_wp2_with fail
      go_loopw [6, 7] (fun s6 s7 ws => ∃ (i at_ c2 : Nat) (a2 : Option Addr) (L : List RdR), i ≤ m ∧ s6 = .slice a2 i c2 ∧ s7 = .int .i64 (at_ : Int) ∧ i ≤ at_ ∧ at_ ≤ ll ∧ Hid (L.length = i) ∧ Hid (SlOwn txr 40 45 ws w.heap.size (.slice a2 i c2) L) ∧ Hid (∀ r ∈ L, TxLd w.heap.size ws r) ∧ Hid (Mod (fun _ => False) w ws) ∧ Hid (decL m (l.drop 8) = preD (L.map txP) (decL (m - i) (l.drop at_)))) (fun s6 _ _ => m - (match s6 with | .slice _ n _ => n | _ => 0))
      case atStart => exact ⟨0, 8, 0, none, [], by omega, rfl, rfl, by omega, h8', Lib.hid rfl, Lib.hid (SlOwn.nil _ _), Lib.hid (fun _ h => (by cases h)), HM1, Lib.hid (by rw [List.map_nil, preD_nil, Nat.sub_zero])⟩
      case round =>
        obtain ⟨i, at_, c2, a2, L, hi, rfl, rfl, hia, hat, HLi, HO, HT, HM, HD⟩ := hrel
        have hiw : IntKind.u64.wrap (i : Int) = (i : Int) := by rw [IntKind.wrap_u64]; omega
        by_cases hlt : i < m
        · have hd : decide (i < m) = true := decide_eq_true hlt
          have hd1 : decide ((i : Int) < (m : Int)) = true := decide_eq_true (by omega)
          obtain ⟨sp, hsp, hss, hsb, hsn⟩ := sl_from (P := Tryz.prog) bytesT (c := c) (k := at_) HL.out.1 (by rw [HLL.out]; exact hat) HL.out.2.1 HL.out.2.2.1
          have HDL : Hid ((l.drop at_).length = ll - at_) := Lib.hid (by rw [List.length_drop, HLL.out])
          rw [HLL.out] at hsp
          have hG := rpget_c (a := sp) (l := l.drop at_) (c := c - at_) _ (hss _ (HL.out.1.mod0 HM.out)) (by rw [HDL.out]; have := HL.out.2.1; have := HLL.out; omega) (fun e => by have := HL.out.2.2.1 (hsn e); omega) (by rw [HDL.out]; omega) (fun x e => by
            obtain ⟨y, hy, hyx⟩ := hsb x e
            have := HL.out.2.2.2.2 y hy
            have := HM.out.size
            omega)
          rw [HDL.out] at hG
          clear hss hsb hsn
          go_upto_region 7 with fail
          refine region_seq 12 rfl ?_
          simp only [List.range, List.range.loop]
          (refine sq_val (v := ?v1) (by simp only [zA, zB, zC]; rfl) ?hw1 ?hy1 ?hn1; (case hw1 => rfl); (case hy1 => (go_simp; (try with_reducible rfl))); (try simp only [Act.put, zF, zG, zH]))
          (refine sq_val (v := ?v2) (by simp only [zA, zB, zC]; rfl) ?hw2 ?hy2 ?hn2; (case hw2 => rfl); (case hy2 => (go_simp; (try with_reducible rfl))); (try simp only [Act.put, zF, zG, zH]))
          (refine sq_slice1 (by simp only [zA, zB, zC]; rfl) ?hw3 rfl ?hx3 ?hz3 (hsp _) ?hn3; (case hw3 => rfl); (case hx3 => (simp only [Act.eval, zD, zA, zB, zC, zE]; (try rfl))); (case hz3 => (simp only [Act.eval, zD, zA, zB, zC, zE]; (try rfl))); (try simp only [Act.put, zF, zG, zH]))
          (refine sq_callT (by simp only [zA, zB, zC]; rfl) ?hw4 ?hy4 hG ?hout (fun vn wn hR => ?hret) (fun ch wn hR => ?hpan); (case hw4 => rfl); (case hy4 => (go_simp; (try (first | with_reducible rfl | (constructor <;> with_reducible rfl))))))
          case hout => exact fun w' h => h.noOut
          case hpan => exact hR.noPan.elim
          case hret =>
          obtain ⟨hm, hr⟩ := hR
          clear hG hsp
          have HO2 := Lib.hid (HO.out.mod0 hm)
          have HT2 : Hid (∀ r ∈ L, TxLd w.heap.size wn r) := Lib.hid (fun r hr => (HT.out r hr).mod0 hm)
          have HM2 := Lib.hid (HM.out.trans hm)
          clear hm
          cases hres : pTx (l.drop at_) with
          | error e0 =>
            rw [hres] at hr
            simp only at hr
            cases hr
            have he0 : ((e0 : Int) != 0) = true := by
              have h1 := NE.tx (l.drop at_)
              rw [NE, hres] at h1
              simpa using fun e => h1 (by rw [e])
            have HE : Hid (decP l = none) := Lib.hid (by rw [HP.out, HD.out, show m - i = (m - (i + 1)) + 1 by omega, preD_err hres])
            (try simp only [Act.put, zF, zG, zH])
            obtain ⟨w4, rfl⟩ : ∃ w4 : World, w4 = wn := ⟨_, rfl⟩
            (refine sq_val (v := ?v5) (by simp only [zA, zB, zC]; rfl) ?hw5 ?hy5 ?hn5; (case hw5 => rfl); (case hy5 => (go_simp; (try with_reducible rfl))); (try simp only [Act.put, zF, zG, zH]))
            (refine sq_val (v := ?v6) (by simp only [zA, zB, zC]; rfl) ?hw6 ?hy6 ?hn6; (case hw6 => rfl); (case hy6 => (go_simp; (try with_reducible rfl))); (try simp only [Act.put, zF, zG, zH]))
            (refine sq_val (v := ?v7) (by simp only [zA, zB, zC]; rfl) ?hw7 ?hy7 ?hn7; (case hw7 => rfl); (case hy7 => (go_simp; (try with_reducible rfl))); (try simp only [Act.put, zF, zG, zH]))
            (refine sq_val (v := ?v8) (by simp only [zA, zB, zC]; rfl) ?hw8 ?hy8 ?hn8; (case hw8 => rfl); (case hy8 => (go_simp; (try with_reducible rfl))); (try simp only [Act.put, zF, zG, zH]))
            (refine sq_alloc (by simp only [zA, zB, zC]; rfl) ?hw9 rfl alTc (fun p8 wn gp8 kp8 mp8 => ?hn9); (case hw9 => rfl); (try simp only [Act.put, zF, zG, zH]))
            (refine sq_store (X := ?X10) (Y := ?Y10) (w' := ?w10) (by simp only [zA, zB, zC]; rfl) ?hw10 rfl rfl ?hx10 ?hz10 ?hy10 ?hn10; (case hw10 => rfl); (case hx10 => (simp only [Act.eval, zD, zA, zB, zC, zE]; (try rfl))); (case hz10 => (simp only [Act.eval, zD, zA, zB, zC, zE]; (try rfl))); (case hy10 => (go_simp; (try with_reducible rfl))))
            (first | refine sq_set kp8 (fun wn kp8 mS => ?_) | refine sq_setCell kp8 (fun wn kp8 mS => ?_))
            (refine sq_val (v := ?v11) (by simp only [zA, zB, zC]; rfl) ?hw11 ?hy11 ?hn11; (case hw11 => rfl); (case hy11 => (go_simp; (try with_reducible rfl))); (try simp only [Act.put, zF, zG, zH]))
            (refine sq_val (v := ?v12) (by simp only [zA, zB, zC]; rfl) ?hw12 ?hy12 ?hn12; (case hw12 => rfl); (case hy12 => (go_simp; (try with_reducible rfl))); (try simp only [Act.put, zF, zG, zH]))
            refine sq_nil ?_
            have HM5 : Hid (Mod (fun _ => False) w wn) := Lib.hid ((HM2.out.trans mp8).then mS (fun i hi e => by have := HM2.out.size; omega))
            clear mS mp8 kp8
            go_wp2_with fail
            refine bodyPost_ret (results_tmp2 rfl _ _ _) rfl ?_
            unfold RdecA
            rw [HE.out]
            exact ⟨HM5.out, rfl⟩
          | ok y =>
            obtain ⟨x, k⟩ := y
            rw [hres] at hr
            obtain ⟨r, hv0, hv, hrx⟩ := hr
            cases hv0
            have hkl := pTx_le hres
            have hk1 := pTx_pos hres hkl
            rw [HDL.out] at hkl
            have HV := Lib.hid (hv.base HM.out.size)
            have HRX := Lib.hid hrx
            clear hv hrx
            (try simp only [Act.put, zF, zG, zH])
            obtain ⟨w4, rfl⟩ : ∃ w4 : World, w4 = wn := ⟨_, rfl⟩
            (refine sq_val (v := ?v13) (by simp only [zA, zB, zC]; rfl) ?hw13 ?hy13 ?hn13; (case hw13 => rfl); (case hy13 => (go_simp; (try with_reducible rfl))); (try simp only [Act.put, zF, zG, zH]))
            (refine sq_val (v := ?v14) (by simp only [zA, zB, zC]; rfl) ?hw14 ?hy14 ?hn14; (case hw14 => rfl); (case hy14 => (go_simp; (try with_reducible rfl))); (try simp only [Act.put, zF, zG, zH]))
            (refine sq_val (v := ?v15) (by simp only [zA, zB, zC]; rfl) ?hw15 ?hy15 ?hn15; (case hw15 => rfl); (case hy15 => (go_simp; (try with_reducible rfl))); (try simp only [Act.put, zF, zG, zH]))
            (refine sq_val (v := ?v16) (by simp only [zA, zB, zC]; rfl) ?hw16 ?hy16 ?hn16; (case hw16 => rfl); (case hy16 => (go_simp; (try with_reducible rfl))); (try simp only [Act.put, zF, zG, zH]))
            (refine sq_alloc (by simp only [zA, zB, zC]; rfl) ?hw17 rfl alTc (fun p8 wn gp8 kp8 mp8 => ?hn17); (case hw17 => rfl); (try simp only [Act.put, zF, zG, zH]))
            (refine sq_store (X := ?X18) (Y := ?Y18) (w' := ?w18) (by simp only [zA, zB, zC]; rfl) ?hw18 rfl rfl ?hx18 ?hz18 ?hy18 ?hn18; (case hw18 => rfl); (case hx18 => (simp only [Act.eval, zD, zA, zB, zC, zE]; (try rfl))); (case hz18 => (simp only [Act.eval, zD, zA, zB, zC, zE]; (try rfl))); (case hy18 => (go_simp; (try with_reducible rfl))))
            (first | refine sq_set kp8 (fun wn kp8 mS => ?_) | refine sq_setCell kp8 (fun wn kp8 mS => ?_))
            (refine sq_val (v := ?v19) (by simp only [zA, zB, zC]; rfl) ?hw19 ?hy19 ?hn19; (case hw19 => rfl); (case hy19 => (go_simp; (try with_reducible rfl))); (try simp only [Act.put, zF, zG, zH]))
            (refine sq_val (v := ?v20) (by simp only [zA, zB, zC]; rfl) ?hw20 ?hy20 ?hn20; (case hw20 => rfl); (case hy20 => (go_simp; (try with_reducible rfl))); (try simp only [Act.put, zF, zG, zH]))
            refine sq_nil ?_
            replace kp8 : wn.heap[p8]? = some (.cells (txr r) 45 (0, 0)) := kp8
            have m45 : Mod (fun _ => False) w4 wn := mp8.then mS (fun i hi e => by omega)
            have HM5 := Lib.hid (HM2.out.trans m45)
            have HO5 := Lib.hid (HO2.out.mod0 m45)
            have HT5 : Hid (∀ r ∈ L, TxLd w.heap.size wn r) := Lib.hid (fun r hr => (HT2.out r hr).mod0 m45)
            have HV5 := Lib.hid (HV.out.mod0 m45)
            clear mS mp8 m45 gp8
            obtain ⟨w5, rfl⟩ : ∃ w5 : World, w5 = wn := ⟨_, rfl⟩
            by_cases hk : k ≤ 1232
            · have hd3 : decide ((k : Int) > 1232) = false := decide_eq_false (by omega)
              have hbs := bsTx r
              obtain ⟨at2, hat2⟩ : ∃ at2, at_ + k = at2 := ⟨_, rfl⟩
              have haw : IntKind.i64.wrap ((at_ : Int) + (k : Int)) = (at2 : Int) := by rw [IntKind.wrap_i64]; omega
              have HD2 : Hid (decL m (l.drop 8) = preD ((L ++ [r]).map txP) (decL (m - (i + 1)) (l.drop at2))) := Lib.hid (by rw [HD.out, show m - i = (m - (i + 1)) + 1 by omega, preD_step hres hk, List.drop_drop, hat2, List.map_append, ← HRX.out]; rfl)
              have hld := fun w' h => ldTxr (w := w') (p := p8) (r := r) (U := 45) (fr := (0, 0)) h
              clear hres
              go_upto_region 10 with fail
              refine region_seq 5 rfl ?_
              simp only [List.range, List.range.loop]
              (refine sq_val (v := ?v21) (by simp only [zA, zB, zC]; rfl) ?hw21 ?hy21 ?hn21; (case hw21 => rfl); (case hy21 => (go_simp; (try with_reducible rfl))); (try simp only [Act.put, zF, zG, zH]))
              (refine sq_load (v := ?v22) (p := ?p22) (by simp only [zA, zB, zC]; rfl) ?hw22 rfl ?hx22 ?hy22 ?hn22; (case hw22 => rfl); (case hx22 => (simp only [Act.eval, zD, zA, zB, zC, zE]; (try rfl))); (case hy22 => (go_simp; (try with_reducible rfl))); (try simp only [Act.put, zF, zG, zH]))
              (refine sq_new (by simp only [zA, zB, zC]; rfl) ?hw23 rfl ?hx23 (hbs _) (fun q43 wn gq43 kq43 mq43 => ?hn23); (case hw23 => rfl); (case hx23 => (simp only [List.map_toArray, List.map_cons, List.map_nil, Act.eval, zD, zA, zB, zC, zE]; (try rfl))); (try simp only [Act.put, zF, zG, zH]))
              have hLi := HLi.out
              have hO2 := HO5.out.mod0 mq43
              have hMq := HM5.out.then0 mq43
              obtain ⟨v8, w8', hap, hO8, m8, hn8⟩ := SlOwn.append txT (q := [r]) (c := 1) hO2 (SlAt.one kq43 r rfl (txr_size r)) (by simp only [List.length_singleton]; omega) (by decide) hMq.size 25
              obtain ⟨a8, c8, rfl, -, -⟩ := hO8.at txT
              have hlen : (L ++ [r]).length = i + 1 := by rw [List.length_append, hLi]; rfl
              have hlo := hO2.lt
              have hM8 := hMq.then m8 (fun j hj e => by have := (hlo j e).1; omega)
              have hap2 : (Builtin.append_ #[25, 25] 25 #[.slice a2 i c2, .slice (some ⟨q43, 0, none⟩) 1 1]).run Tryz.prog wn = .ok (.slice a8 (i + 1) c8) w8' := by
                have h1 := hap
                rw [hlen] at h1
                exact h1
              have hap8 : Apt wn (fun j => (Value.slice a2 i c2).ownBlock = some j) 0 := fun g C E _ hk hE hs => by
                exact own_ty hO2 hk (by rcases hE with rfl | rfl | rfl | rfl | rfl <;> decide) hs
              rw [hlen] at hO8
              have HF : Hid (SlOwn txr 40 45 w8' w.heap.size (.slice a8 (i + 1) c8) (L ++ [r]) ∧ Mod (fun _ => False) w w8' ∧ (L ++ [r]).length = i + 1 ∧ ∀ x ∈ L ++ [r], TxLd w.heap.size w8' x) := Lib.hid ⟨hO8, hM8, hlen, fun x hx => by
                rcases List.mem_append.1 hx with hx | hx
                · exact ((HT5.out x hx).mod0 mq43).mod m8 hap8
                · rw [List.mem_singleton] at hx
                  subst hx
                  exact (HV5.out.mod0 mq43).mod m8 hap8⟩
              clear hap hO2 hMq hO8 m8 hn8 hlen hlo hM8 hLi mq43 kq43 gq43 hbs kp8 hap8 hld
              (refine sq_append (by simp only [zA, zB, zC]; rfl) ?hw24 rfl ?hx24 ?hz24 hap2 ?hn24; (case hw24 => rfl); (case hx24 => (simp only [Act.eval, zD, zA, zB, zC, zE]; (try rfl))); (case hz24 => (simp only [Act.eval, zD, zA, zB, zC, zE]; (try rfl))); (try simp only [Act.put, zF, zG, zH]))
              (refine sq_val (v := ?v25) (by simp only [zA, zB, zC]; rfl) ?hw25 ?hy25 ?hn25; (case hw25 => rfl); (case hy25 => (go_simp; (try with_reducible rfl))); (try simp only [Act.put, zF, zG, zH]))
              refine sq_nil ?_
              go_wp2_with fail
              go_roundw
              case rel => exact ⟨i + 1, at2, c8, a8, L ++ [r], by omega, rfl, rfl, by omega, by omega, Lib.hid HF.out.2.2.1, Lib.hid HF.out.1, Lib.hid HF.out.2.2.2, Lib.hid HF.out.2.1, HD2⟩
              case measure => simp; omega
            · have hd3 : decide ((k : Int) > 1232) = true := decide_eq_true (by omega)
              have HE : Hid (decP l = none) := Lib.hid (by rw [HP.out, HD.out, show m - i = (m - (i + 1)) + 1 by omega, preD_big hres hk])
              go_wp2_with fail
              refine bodyPost_ret (results_tmp2 rfl _ _ _) rfl ?_
              unfold RdecA
              rw [HE.out]
              exact ⟨HM5.out, rfl⟩
        · have hd : decide (i < m) = false := decide_eq_false hlt
          have hd1 : decide ((i : Int) < (m : Int)) = false := decide_eq_false (by omega)
          obtain rfl : m = i := by omega
          have HE : Hid (decP l = match some (L.map txP, l.drop at_) with | some (xs, []) => some xs | _ => none) := Lib.hid (by
            have h0 : decL m (l.drop 8) = some (L.map txP, l.drop at_) := by
              rw [HD.out, Nat.sub_self, decL]
              simp [preD]
            rw [HP.out, h0])
          by_cases hend : at_ = ll
          · have hne : ((at_ : Int) != (ll : Int)) = false := by simp [hend]
            have hne2 : (at_ != ll) = false := by simp [hend]
            have HE2 : Hid (decP l = some (L.map txP)) := Lib.hid (by rw [HE.out, List.drop_of_length_le (by rw [HLL.out]; omega)])
            go_wp2_with fail
            refine bodyPost_ret (results_tmp2 rfl _ _ _) rfl ?_
            unfold RdecA
            rw [HE2.out]
            refine ⟨HM.out, a2, c2, L, by rw [HLi.out]; rfl, by rw [HLi.out]; exact HO.out, HT.out, rfl⟩
          · have hne : ((at_ : Int) != (ll : Int)) = true := by simp; omega
            have hne2 : (at_ != ll) = true := by simp [hend]
            have HE2 : Hid (decP l = none) := Lib.hid (by
              rw [HE.out]
              cases hR : l.drop at_ with
              | nil =>
                have := congrArg List.length hR
                rw [List.length_drop, HLL.out] at this
                simp at this
                omega
              | cons _ _ => rfl)
            go_wp2_with fail
            refine bodyPost_ret (results_tmp2 rfl _ _ _) rfl ?_
            unfold RdecA
            rw [HE2.out]
            exact ⟨HM.out, rfl⟩
end Go.Proofs.YtofpnmoeimjnnaaGreat
