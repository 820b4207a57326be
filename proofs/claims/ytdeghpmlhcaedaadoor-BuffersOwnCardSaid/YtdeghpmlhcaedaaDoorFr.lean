/- Buffers: fresh: a transaction in new memory, all of it. -/
import Derived.Test.YtdeghpmlhcaedaaDoorFo
import Derived.Test.YtdeghpmlhcaedaaDoorBu
import Derived.Test.YtdeghpmlhcaedaaDoorWr
import Derived.Test.YtdeghpmlhcaedaaDoorTe6
namespace Go.Proofs.YtdeghpmlhcaedaaDoor
open Go.RowKit
open Go.ChangeMaps (setBlock)
set_option linter.unusedSimpArgs false
set_option linter.unusedVariables false
attribute [local go_sem ↓] wlRdy ldRdy stRdy wlIn ldIn stIn wlLo ldLo stLo
attribute [local go_sem] cell_blk frozen_blk one_int one_bool one_ptr one_slice one_map Value.cells rdr_size rdr_all rdr_one rdr_one' rdr0 rdr1 rdr6 rdr39 rdr40 rdr41 rdr47 rdr0' rdr1' rdr6' rdr39' rdr40' rdr41' rdr47' zRdy_size
/-- All that is told can be read. -/
structure RdOk (w : World) (x : RdR) : Prop where
  b : SlAt uc 1 w x.b.a x.b.l
  sg : SlAt sgc 64 w x.sg.a x.sg.l
  ks : SlAt kc 32 w x.ks.a x.ks.l
  ins : SlAt inr 3 w x.ins.a x.ins.l
  insB : ∀ y ∈ x.ins.l, SlAt uc 1 w y.a.a y.a.l ∧ SlAt uc 1 w y.d.a y.d.l
  lks : SlAt lor 34 w x.lks.a x.lks.l
  lksB : ∀ y ∈ x.lks.l, SlAt uc 1 w y.w.a y.w.l ∧ SlAt uc 1 w y.r.a y.r.l
  ro : SlAt rcr 34 w x.ro.a x.ro.l
/-- No list is longer than goes through here. -/
structure RdSm (x : RdC) : Prop where
  b : x.b.length ≤ 1000000
  sg : x.sg.length ≤ 1000000
  ks : x.ks.length ≤ 1000000
  ins : x.ins.length ≤ 1000000
  insB : ∀ y ∈ x.ins, y.a.length ≤ 1000000 ∧ y.d.length ≤ 1000000
  lks : x.lks.length ≤ 1000000
  lksB : ∀ y ∈ x.lks, y.w.length ≤ 1000000 ∧ y.r.length ≤ 1000000
  ro : x.ro.length ≤ 1000000
abbrev Inb (S : Nat → Prop) (a : Option Addr) : Prop := ∀ g o, a = some ⟨g, o, none⟩ → S g
/-- All blocks of it are in S. -/
structure RdIn (S : Nat → Prop) (x : RdR) : Prop where
  b : Inb S x.b.a
  sg : Inb S x.sg.a
  ks : Inb S x.ks.a
  ins : Inb S x.ins.a
  insB : ∀ y ∈ x.ins.l, Inb S y.a.a ∧ Inb S y.d.a
  lks : Inb S x.lks.a
  lksB : ∀ y ∈ x.lks.l, Inb S y.w.a ∧ Inb S y.r.a
  ro : Inb S x.ro.a
theorem RdIn.mono {S T : Nat → Prop} {x : RdR} (h : RdIn S x) (hT : ∀ i, S i → T i) : RdIn T x :=
  ⟨fun g o e => hT g (h.b g o e), fun g o e => hT g (h.sg g o e), fun g o e => hT g (h.ks g o e), fun g o e => hT g (h.ins g o e), fun y hy => ⟨fun g o e => hT g ((h.insB y hy).1 g o e), fun g o e => hT g ((h.insB y hy).2 g o e)⟩,
    fun g o e => hT g (h.lks g o e), fun y hy => ⟨fun g o e => hT g ((h.lksB y hy).1 g o e), fun g o e => hT g ((h.lksB y hy).2 g o e)⟩, fun g o e => hT g (h.ro g o e)⟩
theorem RdOk.mod {w w' : World} {x : RdR} {S T : Nat → Prop} (h : RdOk w x) (hm : Mod S w w') (hi : RdIn T x) (hT : ∀ i, T i → ¬ S i) : RdOk w' x :=
  ⟨h.b.mod hm (fun g o e => hT g (hi.b g o e)), h.sg.mod hm (fun g o e => hT g (hi.sg g o e)), h.ks.mod hm (fun g o e => hT g (hi.ks g o e)), h.ins.mod hm (fun g o e => hT g (hi.ins g o e)),
    fun y hy => ⟨(h.insB y hy).1.mod hm (fun g o e => hT g ((hi.insB y hy).1 g o e)), (h.insB y hy).2.mod hm (fun g o e => hT g ((hi.insB y hy).2 g o e))⟩, h.lks.mod hm (fun g o e => hT g (hi.lks g o e)),
    fun y hy => ⟨(h.lksB y hy).1.mod hm (fun g o e => hT g ((hi.lksB y hy).1 g o e)), (h.lksB y hy).2.mod hm (fun g o e => hT g ((hi.lksB y hy).2 g o e))⟩, h.ro.mod hm (fun g o e => hT g (hi.ro g o e))⟩
theorem RdOk.mod0 {w w' : World} {x : RdR} (h : RdOk w x) (hm : Mod (fun _ => False) w w') : RdOk w' x :=
  ⟨h.b.mod0 hm, h.sg.mod0 hm, h.ks.mod0 hm, h.ins.mod0 hm, fun y hy => ⟨(h.insB y hy).1.mod0 hm, (h.insB y hy).2.mod0 hm⟩, h.lks.mod0 hm, fun y hy => ⟨(h.lksB y hy).1.mod0 hm, (h.lksB y hy).2.mod0 hm⟩, h.ro.mod0 hm⟩
/-- A list in memory of its own, as a pass makes it. -/
def NewL {α : Type} (f : α → Array Value) (n : Nat) (E : TypeId) (b : Nat) (l : List α) (v : Value) : Land := fun T w => NewS f n E b w v l ∧ ∀ g, v.ownBlock = some g → T g
theorem goodN {α : Type} (f : α → Array Value) (n : Nat) (E : TypeId) (b : Nat) (l : List α) (v : Value) : Good (NewL f n E b l v) where
  cl := fun T w w' h hm => ⟨h.1.mod hm (fun g hg hn => hn (h.2 g hg)), h.2⟩
  gr := fun T T' w hT h => ⟨h.1, fun g hg => hT g (h.2 g hg)⟩
theorem newL {α : Type} {f : α → Array Value} {n : Nat} {E : TypeId} {b : Nat} {l : List α} {v : Value} {T : Nat → Prop} {w w' : World} (h : NewS f n E w.heap.size w' v l) (hb : b ≤ w.heap.size) : NewL f n E b l v (Grow T w w') w' :=
  ⟨h.base hb, fun g hg => .inr (h.lt g hg)⟩
/-- Two cells of one row written. -/
theorem rows_set2 {α : Type} {f : α → Array Value} {n i o1 o2 : Nat} {cur : Array Value} {l : List α} (hs : ∀ x, (f x).size = n) (hrow : ∀ (j : Nat) y, l[j]? = some y → cur.extract (j * n) (j * n + n) = f y ∧ j * n + n ≤ cur.size) {x x' : α} (hx : l[i]? = some x) (h1 : o1 < n) (h2 : o2 < n) {u v : Value} (hx' : ((f x).setIfInBounds o1 u).setIfInBounds o2 v = f x') :
    ∀ (j : Nat) y, (l.set i x')[j]? = some y → ((cur.setIfInBounds (i * n + o1) u).setIfInBounds (i * n + o2) v).extract (j * n) (j * n + n) = f y ∧ j * n + n ≤ ((cur.setIfInBounds (i * n + o1) u).setIfInBounds (i * n + o2) v).size := by
  intro j y hy
  have hi := (List.getElem?_eq_some_iff.1 hx).1
  obtain ⟨he, hle⟩ := hrow i x hx
  simp only [Array.size_setIfInBounds]
  by_cases hj : j = i
  · subst hj
    rw [List.getElem?_set_self hi] at hy
    cases hy
    refine ⟨?_, hle⟩
    rw [← hx', ← he]
    apply Array.ext_getElem?
    intro t
    by_cases ht : t < n
    · simp only [Array.getElem?_extract, Array.getElem?_setIfInBounds, Array.size_extract, Array.size_setIfInBounds]
      have e1 : (j * n + o1 = j * n + t) ↔ o1 = t := by omega
      have e2 : (j * n + o2 = j * n + t) ↔ o2 = t := by omega
      have e3 : min (j * n + n) cur.size - j * n = n := by omega
      simp only [e1, e2, e3, ht, if_true, h1, h2]
      have e4 : j * n + t < cur.size := by omega
      have e5 : j * n + o1 < cur.size := by omega
      have e6 : j * n + o2 < cur.size := by omega
      simp only [e4, e5, e6, if_true]
    · rw [Array.getElem?_eq_none (by simp; omega), Array.getElem?_eq_none (by simp; omega)]
  · rw [List.getElem?_set_ne (fun e => hj e.symm)] at hy
    obtain ⟨he2, hle2⟩ := hrow j y hy
    refine ⟨?_, hle2⟩
    rw [← he2]
    apply Array.ext_getElem?
    intro t
    by_cases ht : t < n
    · simp only [Array.getElem?_extract, Array.getElem?_setIfInBounds, Array.size_setIfInBounds]
      have q : ¬ (i * n + o1 = j * n + t) ∧ ¬ (i * n + o2 = j * n + t) := by
        rcases Nat.lt_or_ge j i with h | h
        · have : (j + 1) * n ≤ i * n := Nat.mul_le_mul_right _ h
          rw [Nat.add_mul, Nat.one_mul] at this
          omega
        · have : (i + 1) * n ≤ j * n := Nat.mul_le_mul_right _ (by omega)
          rw [Nat.add_mul, Nat.one_mul] at this
          omega
      rw [if_neg q.2, if_neg q.1]
    · rw [Array.getElem?_eq_none (by simp; omega), Array.getElem?_eq_none (by simp; omega)]
theorem inr_size (x : InR) : (inr x).size = 3 := rfl
theorem inr1 (x : InR) : (inr x)[1]? = some (.slice x.a.a x.a.l.length x.a.c) := rfl
theorem inr2 (x : InR) : (inr x)[2]? = some (.slice x.d.a x.d.l.length x.d.c) := rfl
theorem inr_all (x : InR) : (inr x).extract 0 3 = inr x := rfl
theorem inr_one (x : InR) : (inr x).all (·.oneCell') 0 3 = true := by simp [inr, Value.oneCell']
theorem lor_size (x : LoR) : (lor x).size = 34 := kx_size _ _
theorem lor1 (x : LoR) : (lor x)[32]? = some (.slice x.w.a x.w.l.length x.w.c) := kx_get _ _ 0
theorem lor2 (x : LoR) : (lor x)[33]? = some (.slice x.r.a x.r.l.length x.r.c) := kx_get _ _ 1
theorem lor_all (x : LoR) : (lor x).extract 0 34 = lor x := kx_all _ _ rfl
theorem lor_one (x : LoR) : (lor x).all (·.oneCell') 0 34 = true := all_of (lor_size x) (kx_one _ _ rfl)
theorem inr1' (x : InR) (h : 1 < (inr x).size) : (inr x)[1] = .slice x.a.a x.a.l.length x.a.c := rfl
theorem inr2' (x : InR) (h : 2 < (inr x).size) : (inr x)[2] = .slice x.d.a x.d.l.length x.d.c := rfl
theorem lor1' (x : LoR) (h : 32 < (lor x).size) : (lor x)[32] = .slice x.w.a x.w.l.length x.w.c := at_get (lor1 x) h
theorem lor2' (x : LoR) (h : 33 < (lor x).size) : (lor x)[33] = .slice x.r.a x.r.l.length x.r.c := at_get (lor2 x) h
theorem zIn_size : zIn.size = 3 := rfl
theorem zLo_size : zLo.size = 34 := lor_size _
attribute [local go_sem] inr_size inr1 inr2 inr_all inr_one lor_size lor1 lor2 lor_all lor_one inr1' inr2' lor1' lor2' zIn_size zLo_size
theorem kx_set (k : Key) (xs : List Value) (j : Nat) (v : Value) : (kx k xs).setIfInBounds (32 + j) v = kx k (xs.set j v) := by
  apply Array.toList_inj.1
  unfold kx
  rw [Array.toList_setIfInBounds, Array.toList_append, Array.toList_append, List.set_append_right _ _ (by simp)]
  simp
/-- An element in new memory, with what one held. -/
def EI (q : Nat) (w : World) (y z : InR) : Prop := y.con = z.con ∧ NewS uc 1 5 q w (.slice y.a.a y.a.l.length y.a.c) y.a.l ∧ NewS uc 1 5 q w (.slice y.d.a y.d.l.length y.d.c) y.d.l
def EL (q : Nat) (w : World) (y z : LoR) : Prop := y.con = z.con ∧ NewS uc 1 5 q w (.slice y.w.a y.w.l.length y.w.c) y.w.l ∧ NewS uc 1 5 q w (.slice y.r.a y.r.l.length y.r.c) y.r.l
theorem NewS.ty {α : Type} {f : α → Array Value} {n : Nat} {E : TypeId} {base : Nat} {w : World} {v : Value} {l : List α} (h : NewS f n E base w v l) {g : Nat} (hg : v.ownBlock = some g) : ∃ cur, w.heap[g]? = some (.cells cur E (0, 0)) := by
  rcases h with ⟨rfl, _⟩ | ⟨g', cur, rfl, _, h2, _⟩
  · cases hg
  · cases hg
    exact ⟨cur, h2⟩
/-- A block of another kind changes. -/
theorem NewS.other {α β : Type} {f : α → Array Value} {n : Nat} {E : TypeId} {base : Nat} {w w' : World} {v : Value} {l : List α} (h : NewS f n E base w v l) {f' : β → Array Value} {n' : Nat} {E' : TypeId} {b' : Nat} {v' : Value} {l' : List β} (h' : NewS f' n' E' b' w v' l') (hE : E ≠ E') (hm : Mod (fun b => v'.ownBlock = some b) w w') : NewS f n E base w' v l := by
  refine h.mod hm (fun g hg e => ?_)
  obtain ⟨c1, k1⟩ := h.ty hg
  obtain ⟨c2, k2⟩ := h'.ty e
  rw [k1] at k2
  injection k2 with k2
  injection k2 with _ k2
  exact hE k2
theorem EI.mod {q : Nat} {w w' : World} {y z : InR} (h : EI q w y z) {S : Nat → Prop} (hm : Mod S w w') (hS : ∀ g cur, w.heap[g]? = some (.cells cur 5 (0, 0)) → ¬ S g) : EI q w' y z :=
  ⟨h.1, h.2.1.mod hm (fun g hg => by obtain ⟨c, k⟩ := h.2.1.ty hg; exact hS g c k), h.2.2.mod hm (fun g hg => by obtain ⟨c, k⟩ := h.2.2.ty hg; exact hS g c k)⟩
theorem EL.mod {q : Nat} {w w' : World} {y z : LoR} (h : EL q w y z) {S : Nat → Prop} (hm : Mod S w w') (hS : ∀ g cur, w.heap[g]? = some (.cells cur 5 (0, 0)) → ¬ S g) : EL q w' y z :=
  ⟨h.1, h.2.1.mod hm (fun g hg => by obtain ⟨c, k⟩ := h.2.1.ty hg; exact hS g c k), h.2.2.mod hm (fun g hg => by obtain ⟨c, k⟩ := h.2.2.ty hg; exact hS g c k)⟩
theorem inr_set (z : InR) (u v : Sl UInt8) : ((inr z).setIfInBounds 1 (.slice u.a u.l.length u.c)).setIfInBounds 2 (.slice v.a v.l.length v.c) = inr ⟨z.p, u, v⟩ := rfl
theorem lor_set (z : LoR) (u v : Sl UInt8) : ((lor z).setIfInBounds 32 (.slice u.a u.l.length u.c)).setIfInBounds 33 (.slice v.a v.l.length v.c) = lor ⟨z.t, u, v⟩ :=
  (congrArg (fun xs : Array Value => xs.setIfInBounds (32 + 1) (.slice v.a v.l.length v.c)) (kx_set z.t _ 0 _)).trans (kx_set z.t _ 1 _)
/-- How far the elements are. -/
structure LpI (q : Nat) (w : World) (v : Value) (l0 L : List InR) (i : Nat) : Prop where
  len : L.length = l0.length
  rows : NewS inr 3 71 q w v L
  done : ∀ (j : Nat) y z, j < i → L[j]? = some y → l0[j]? = some z → EI q w y z
  rest : ∀ j : Nat, i ≤ j → L[j]? = l0[j]?
structure LpL (q : Nat) (w : World) (v : Value) (l0 L : List LoR) (i : Nat) : Prop where
  len : L.length = l0.length
  rows : NewS lor 34 73 q w v L
  done : ∀ (j : Nat) y z, j < i → L[j]? = some y → l0[j]? = some z → EL q w y z
  rest : ∀ j : Nat, i ≤ j → L[j]? = l0[j]?
theorem NewS.ok {α : Type} {f : α → Array Value} {n m c : Nat} {E : TypeId} {b : Nat} {w : World} {a : Option Addr} {l : List α} (h : NewS f n E b w (.slice a m c) l) : SlAt f n w a l ∧ Inb (fun g => b ≤ g ∧ g < w.heap.size) a := by
  obtain ⟨a', e, h1, h2⟩ := h.at
  injection e with e _ _
  subst e
  exact ⟨h1, h2⟩
theorem NewS.norm {α : Type} {f : α → Array Value} {n m c : Nat} {E : TypeId} {b : Nat} {w : World} {a : Option Addr} {l : List α} (h : NewS f n E b w (.slice a m c) l) : NewS f n E b w (.slice a l.length l.length) l := by
  obtain ⟨a', e, _, _⟩ := h.at
  injection e with e1 e2 e3
  rw [e2, e3] at h
  exact h
/-- All lists of a packet lie in blocks of their own, made since base. -/
structure RdNew (base : Nat) (w : World) (x : RdR) : Prop where
  b : NewS uc 1 5 base w (.slice x.b.a x.b.l.length x.b.l.length) x.b.l
  sg : NewS sgc 64 77 base w (.slice x.sg.a x.sg.l.length x.sg.l.length) x.sg.l
  ks : NewS kc 32 69 base w (.slice x.ks.a x.ks.l.length x.ks.l.length) x.ks.l
  ins : NewS inr 3 71 base w (.slice x.ins.a x.ins.l.length x.ins.l.length) x.ins.l
  insB : ∀ y ∈ x.ins.l, NewS uc 1 5 base w (.slice y.a.a y.a.l.length y.a.l.length) y.a.l ∧ NewS uc 1 5 base w (.slice y.d.a y.d.l.length y.d.l.length) y.d.l
  lks : NewS lor 34 73 base w (.slice x.lks.a x.lks.l.length x.lks.l.length) x.lks.l
  lksB : ∀ y ∈ x.lks.l, NewS uc 1 5 base w (.slice y.w.a y.w.l.length y.w.l.length) y.w.l ∧ NewS uc 1 5 base w (.slice y.r.a y.r.l.length y.r.l.length) y.r.l
  ro : NewS rcr 34 75 base w (.slice x.ro.a x.ro.l.length x.ro.l.length) x.ro.l
theorem RdNew.ok {base : Nat} {w : World} {x : RdR} (h : RdNew base w x) : RdOk w x :=
  ⟨h.b.ok.1, h.sg.ok.1, h.ks.ok.1, h.ins.ok.1, fun y hy => ⟨(h.insB y hy).1.ok.1, (h.insB y hy).2.ok.1⟩, h.lks.ok.1, fun y hy => ⟨(h.lksB y hy).1.ok.1, (h.lksB y hy).2.ok.1⟩, h.ro.ok.1⟩
theorem RdNew.inn {base : Nat} {w : World} {x : RdR} (h : RdNew base w x) : RdIn (fun g => base ≤ g ∧ g < w.heap.size) x :=
  ⟨h.b.ok.2, h.sg.ok.2, h.ks.ok.2, h.ins.ok.2, fun y hy => ⟨(h.insB y hy).1.ok.2, (h.insB y hy).2.ok.2⟩, h.lks.ok.2, fun y hy => ⟨(h.lksB y hy).1.ok.2, (h.lksB y hy).2.ok.2⟩, h.ro.ok.2⟩
/-- One block of another kind changes. -/
theorem NewS.offT {α : Type} {f : α → Array Value} {n : Nat} {E : TypeId} {base : Nat} {w w' : World} {v : Value} {l : List α} (h : NewS f n E base w v l) {p : Nat} {C : Array Value} {T' : TypeId} (hb : w.heap[p]? = some (.cells C T' (0, 0))) (hE : E ≠ T') (hm : Mod (fun i => i = p) w w') : NewS f n E base w' v l := by
  refine h.mod hm (fun g hg e => ?_)
  subst e
  obtain ⟨c, k⟩ := h.ty hg
  rw [hb] at k
  injection k with k
  injection k with _ k
  exact hE k.symm
theorem map_eq_of {α β γ : Type} {L : List α} {l : List β} {f : α → γ} {g : β → γ} (hl : L.length = l.length) (h : ∀ (j : Nat) y z, L[j]? = some y → l[j]? = some z → f y = g z) : L.map f = l.map g := by
  apply List.ext_getElem?
  intro j
  rw [List.getElem?_map, List.getElem?_map]
  by_cases hj : j < L.length
  · have h1 := List.getElem?_eq_getElem hj
    have h2 := List.getElem?_eq_getElem (l := l) (i := j) (by omega)
    rw [h1, h2]
    exact congrArg some (h j _ _ h1 h2)
  · rw [List.getElem?_eq_none (by omega), List.getElem?_eq_none (by omega)]
    rfl
set_option maxRecDepth 20000 in
set_option maxHeartbeats 6400000 in
theorem fresh_n {w : World} {x : RdR} (hx : RdOk w x) (hs : RdSm x.con) : Calls Tryd.prog 27 #[.agg (rdr x)] w fun e w' => ∃ y : RdR, e = .returned (.agg (rdr y)) ∧ y.con = x.con ∧ RdNew w.heap.size w' y ∧ Mod (fun _ => False) w w' := by
  have HX := Lib.hid (And.intro hx hs)
  have HB0 : Hid (∃ q, q = w.heap.size) := Lib.hid ⟨_, rfl⟩
  clear hx hs
  go_enter Tryd.func27, Tryd.ntmps27
  go_upto_region 0 with fail
  refine wp_pass0 (C := fun _ _ _ => False) (κ := fun i => [3, 3].getD i 0) [0, 1] (by kernel_rfl) (by kernel_rfl) (fun _ _ d _ _ h => by cases d <;> first | exact h | exact absurd h (hP _ _ _)) ?_
  (refine TD.box (v := ?v1) (by simp only [zA, zB, zC]; rfl) rfl ?hw1 rfl rfl ?hx1 (fun p1 hp1 => ?hn1); (case hw1 => rfl); (case hx1 => (simp only [Act.eval, zD, zA, zB, zC, zE]; (try rfl))); (try simp only [Act.put, zF, zG, zH]))
  (refine TD.allocB (by simp only [zA, zB, zC]; rfl) rfl ?hw2 rfl rfl alRdy (fun p2 hp2 => ?hn2); (case hw2 => rfl); (try simp only [Act.put, zF, zG, zH]))
  obtain ⟨ne_p2_p1, hp2⟩ := Bx.set_none hp2
  refine TD.nil (fun w1 hr => ?_)
  have kp1 := hr.box p1 _ (by first | exact Bx.set_same _ _ _ | (simp only [Bx.set_ne _ (Ne.symm ne_p2_p1), Bx.set_ne _ ne_p2_p1, Bx.set_same]; rfl)); dsimp only [Value.cells] at kp1; obtain ⟨gp1, kp1⟩ := kp1
  have kp2 := hr.box p2 _ (by first | exact Bx.set_same _ _ _ | (simp only [Bx.set_ne _ (Ne.symm ne_p2_p1), Bx.set_ne _ ne_p2_p1, Bx.set_same]; rfl)); dsimp only [Value.cells] at kp2; obtain ⟨gp2, kp2⟩ := kp2
  have m1 := hr.mod
  clear hr
  go_upto_region 1 with fail
  have Lkp1 := lt_size kp1
  have Lkp2 := lt_size kp2
  refine wp_epass (T0 := fun _ => False) (K := fun _ _ => True) (κ := fun i => [0, 0, 6, 0, 0, 6, 0, 6, 0, 6].getD i 0) (υ := fun i => [[], [], [], [], [], [], [], [], [], []].getD i []) [0, 1, 2, 3, 4, 5, 6] [7, 8, 9] (by kernel_rfl) (by kernel_rfl) (Good.true).cl (trivial) (fun _ h => h.elim) ?_
  have gK := Good.true
  (refine TG.v0 (v := ?v3) (by simp only [zA, zB, zC]; rfl) rfl ?hw3 (fun w1 => ?hy3) ?hn3; (case hw3 => rfl); (case hy3 => (go_simp; (try with_reducible rfl))); (try simp only [Act.put, zF, zG, zH]))
  (refine TG.load (v := ?v4) (p := ?p4) (by simp only [zA, zB, zC]; rfl) rfl ?hw4 rfl ?hx4 (fun wq hSq => ?hy4) ?hn4; (case hw4 => rfl); (case hx4 => (simp only [Act.eval, zD, zA, zB, zC, zE]; (try rfl))); (case hy4 => (have kp1q := hSq.at kp1 (by intro hT; first | exact hT | exact absurd hT (by assumption) | omega | (simp only at hT; omega)); have kp2q := hSq.at kp2 (by intro hT; first | exact hT | exact absurd hT (by assumption) | omega | (simp only at hT; omega)); go_simp; (try with_reducible rfl))); (try simp only [Act.put, zF, zG, zH]))
  (refine TG.callM (f := ?f5) (args := ?r5) (NewL uc 1 5 w.heap.size x.b.l) (goodN uc 1 5 w.heap.size x.b.l) gK (by simp only [zA, zB, zC]; rfl) rfl ?hw5 (fun w1 => ?hy5) (fun T wq kq ltq hSq ub => ?hsp5) ?hn5; (case hw5 => rfl); (case hy5 => (go_simp; (first | with_reducible rfl | (constructor <;> with_reducible rfl)))); (case hsp5 => (have kp1q := hSq.at kp1 (by intro hT; first | exact hT | exact absurd hT (by assumption) | omega | (simp only at hT; omega)); have kp2q := hSq.at kp2 (by intro hT; first | exact hT | exact absurd hT (by assumption) | omega | (simp only at hT; omega)); exact (ownB_c (c := x.b.c) (HX.out.1.b.mod0 (m1.then0 hSq)) HX.out.2.b).mono (fun e w' h => by obtain ⟨v, h1, h2, h3⟩ := h; exact ⟨v, h1, h3, newL h2 (m1.then0 hSq).size⟩))); rintro v5 ⟨wI, TI, hI⟩; replace gK := gK.and ((goodN uc 1 5 w.heap.size x.b.l) v5); skip; (try clear hI TI wI); (try simp only [Act.put, zF, zG, zH]))
  (refine TG.v0 (v := ?v6) (by simp only [zA, zB, zC]; rfl) rfl ?hw6 (fun w1 => ?hy6) ?hn6; (case hw6 => rfl); (case hy6 => (go_simp; (try with_reducible rfl))); (try simp only [Act.put, zF, zG, zH]))
  (refine TG.load (v := ?v7) (p := ?p7) (by simp only [zA, zB, zC]; rfl) rfl ?hw7 rfl ?hx7 (fun wq hSq => ?hy7) ?hn7; (case hw7 => rfl); (case hx7 => (simp only [Act.eval, zD, zA, zB, zC, zE]; (try rfl))); (case hy7 => (have kp1q := hSq.at kp1 (by intro hT; first | exact hT | exact absurd hT (by assumption) | omega | (simp only at hT; omega)); have kp2q := hSq.at kp2 (by intro hT; first | exact hT | exact absurd hT (by assumption) | omega | (simp only at hT; omega)); go_simp; (try with_reducible rfl))); (try simp only [Act.put, zF, zG, zH]))
  (refine TG.callM (f := ?f8) (args := ?r8) (NewL rcr 34 75 w.heap.size x.ro.l) (goodN rcr 34 75 w.heap.size x.ro.l) gK (by simp only [zA, zB, zC]; rfl) rfl ?hw8 (fun w1 => ?hy8) (fun T wq kq ltq hSq ub => ?hsp8) ?hn8; (case hw8 => rfl); (case hy8 => (go_simp; (first | with_reducible rfl | (constructor <;> with_reducible rfl)))); (case hsp8 => (have kp1q := hSq.at kp1 (by intro hT; first | exact hT | exact absurd hT (by assumption) | omega | (simp only at hT; omega)); have kp2q := hSq.at kp2 (by intro hT; first | exact hT | exact absurd hT (by assumption) | omega | (simp only at hT; omega)); exact (ownR_c (c := x.ro.c) (HX.out.1.ro.mod0 (m1.then0 hSq)) HX.out.2.ro).mono (fun e w' h => by obtain ⟨v, h1, h2, h3⟩ := h; exact ⟨v, h1, h3, newL h2 (m1.then0 hSq).size⟩))); rintro v8 ⟨wI, TI, hI⟩; replace gK := gK.and ((goodN rcr 34 75 w.heap.size x.ro.l) v8); skip; (try clear hI TI wI); (try simp only [Act.put, zF, zG, zH]))
  (refine TG.v0 (v := ?v9) (by simp only [zA, zB, zC]; rfl) rfl ?hw9 (fun w1 => ?hy9) ?hn9; (case hw9 => rfl); (case hy9 => (go_simp; (try with_reducible rfl))); (try simp only [Act.put, zF, zG, zH]))
  refine TG.nil (fun w2 ⟨TR, hr⟩ => ?_)
  have kp1 := hr.mod.at kp1 (by intro hT; first | exact hT | exact absurd hT (by assumption) | omega | (simp only at hT; omega))
  have kp2 := hr.mod.at kp2 (by intro hT; first | exact hT | exact absurd hT (by assumption) | omega | (simp only at hT; omega))
  clear gK
  obtain ⟨⟨_, hN5, hT5⟩, hN8, hT8⟩ := hr.k
  have hp1 : ∀ g, TR g → g ≠ p1 := fun g hg e => (hr.old g (e ▸ Lkp1) hg).elim
  have hp2 : ∀ g, TR g → g ≠ p2 := fun g hg e => (hr.old g (e ▸ Lkp2) hg).elim
  have m2 := m1.then0 hr.mod
  obtain ⟨a5, e5, _⟩ := hN5.at
  obtain ⟨a8, e8, _⟩ := hN8.at
  subst e5
  subst e8
  have hne12 : p2 ≠ p1 := ne_p2_p1
  have HN := Lib.hid (And.intro hN5 (And.intro hT5 (And.intro hN8 (And.intro hT8 (And.intro hp1 hp2)))))
  clear hr hN5 hT5 hN8 hT8 hp1 hp2
  generalize hlb : x.b.l.length = lb at *
  generalize hlr : x.ro.l.length = lr at *
  refine TE.step (by simp only [zA, zB, zC]; rfl) rfl ?_
  (refine eff_store (X := ?X10) (Y := ?Y10) (w' := ?w10) (by simp only [zA, zB, zC]; rfl) ?hw10 rfl ?hx10 ?hz10 ?hy10 ?hn10; (case hw10 => rfl); (case hx10 => (simp only [Act.eval, zD, zA, zB, zC, zE]; (try rfl))); (case hz10 => (simp only [Act.eval, zD, zA, zB, zC, zE]; (try rfl))); (case hy10 => (go_simp; (try with_reducible rfl))))
  (first | refine TE.mid_set kp1 (fun wn kp1 mS => ?_) | refine TE.mid_setCell kp1 (fun wn kp1 mS => ?_))
  have kp2 := mS.at_ne kp2 hne12
  have mp := mS
  clear mS
  (refine TE.val0 (v := ?v11) (by simp only [zA, zB, zC]; rfl) ?hw11 (fun w1 => ?hy11) ?hn11; (case hw11 => rfl); (case hy11 => (go_simp; (try with_reducible rfl))); (try simp only [Act.put, zF, zG, zH]))
  refine TE.step (by simp only [zA, zB, zC]; rfl) rfl ?_
  (refine eff_store (X := ?X12) (Y := ?Y12) (w' := ?w12) (by simp only [zA, zB, zC]; rfl) ?hw12 rfl ?hx12 ?hz12 ?hy12 ?hn12; (case hw12 => rfl); (case hx12 => (simp only [Act.eval, zD, zA, zB, zC, zE]; (try rfl))); (case hz12 => (simp only [Act.eval, zD, zA, zB, zC, zE]; (try rfl))); (case hy12 => (go_simp; (try with_reducible rfl))))
  (first | refine TE.nil_set kp1 (fun wn kp1 mS => ?_) | refine TE.nil_setCell kp1 (fun wn kp1 mS => ?_))
  have kp2 := mS.at_ne kp2 hne12
  have mp2 := mp.trans mS
  have m3 := m2.thenB mp2 (.inl gp1)
  have HN3 : Hid (NewS uc 1 5 w.heap.size wn (.slice a5 lb lb) x.b.l ∧ NewS rcr 34 75 w.heap.size wn (.slice a8 lr lr) x.ro.l) := Lib.hid ⟨HN.out.1.mod mp2 (fun g hg => HN.out.2.2.2.2.1 g (HN.out.2.1 g hg)), HN.out.2.2.1.mod mp2 (fun g hg => HN.out.2.2.2.2.1 g (HN.out.2.2.2.1 g hg))⟩
  have HL0 := Lib.hid (And.intro hlb hlr)
  obtain ⟨y1, hy1⟩ : ∃ y1 : RdR, y1 = { x with b := ⟨a5, x.b.l, lb⟩, ro := ⟨a8, x.ro.l, lr⟩ } := ⟨_, rfl⟩
  replace kp1 : wn.heap[p1]? = some (.cells (rdr y1) 48 (0, 0)) := by
    rw [set_b x.b.l hlb, set_ro x.ro.l hlr] at kp1
    rw [hy1]
    exact kp1
  have hysg : y1.sg = x.sg := by rw [hy1]
  have hyks : y1.ks = x.ks := by rw [hy1]
  have hyin : y1.ins = x.ins := by rw [hy1]
  have hylk : y1.lks = x.lks := by rw [hy1]
  have HY1 := Lib.hid hy1
  clear hy1
  obtain ⟨w3, rfl⟩ : ∃ w3 : World, w3 = wn := ⟨_, rfl⟩
  clear mS mp mp2 HN m2 hlb hlr
  have HP1 := Lib.hid kp1
  go_upto_region 3 with fail
  have Lkp1 := lt_size kp1
  have Lkp2 := lt_size kp2
  refine wp_region_any (by kernel_rfl) ?_
  change wpAny _ .any _ _ 34 _ _ _
  (refine take_first (i := 0) (v := ?v13) (by simp only [zA, zB, zC]; rfl) (by kernel_rfl) (fun _ _ d _ _ h => by cases d <;> first | exact h | exact absurd h (hP _ _ _)) ?hw13 (fun w1 => ?hy13) ?hn13; (case hw13 => rfl); (case hy13 => (go_simp; (try with_reducible rfl))); (try simp only [Act.put, zF, zG, zH]))
  (refine take_first (i := 1) (v := ?v14) (by simp only [zA, zB, zC]; rfl) (by kernel_rfl) (fun _ _ d _ _ h => by cases d <;> first | exact h | exact absurd h (hP _ _ _)) ?hw14 (fun w1 => ?hy14) ?hn14; (case hw14 => rfl); (case hy14 => (go_simp; (try with_reducible rfl))); (try simp only [Act.put, zF, zG, zH]))
  (refine take_first (i := 2) (v := ?v15) (by simp only [zA, zB, zC]; rfl) (by kernel_rfl) (fun _ _ d _ _ h => by cases d <;> first | exact h | exact absurd h (hP _ _ _)) ?hw15 (fun w1 => ?hy15) ?hn15; (case hw15 => rfl); (case hy15 => (go_simp; (try with_reducible rfl))); (try simp only [Act.put, zF, zG, zH]))
  refine e_anyL (T0 := fun _ => False) (K := fun _ _ => True) (κ := fun i => [0, 0, 0, 0, 0, 0, 6, 0, 0, 0, 0, 6, 0, 0, 0, 0, 6, 0, 0, 0, 0, 6, 0, 0, 6, 0, 0, 6, 0, 0, 6, 0, 0, 6].getD i 0) (υ := fun i => [[], [], [], [], [], [], [], [], [], [], [], [], [], [], [], [], [], [], [], [], [], [], [], [], [], [], [], [], [], [], [], [], [], []].getD i []) (fun _ _ d _ _ h => by cases d <;> first | exact h | exact absurd h (hP _ _ _)) [3, 4, 5, 6, 7, 8, 9, 10, 11, 12, 13, 14, 15, 16, 17, 18, 19, 20, 21, 22, 23] [24, 25, 26, 27, 28, 29, 30, 31, 32, 33] (by kernel_rfl) (Good.true).cl (rg_drew (Good.true).cl (trivial) (fun _ h => h.elim)) ?_
  have gK := Good.true
  (refine TG.v0 (v := ?v16) (by simp only [zA, zB, zC]; rfl) rfl ?hw16 (fun w1 => ?hy16) ?hn16; (case hw16 => rfl); (case hy16 => (go_simp; (try with_reducible rfl))); (try simp only [Act.put, zF, zG, zH]))
  (refine TG.v0 (v := ?v17) (by simp only [zA, zB, zC]; rfl) rfl ?hw17 (fun w1 => ?hy17) ?hn17; (case hw17 => rfl); (case hy17 => (go_simp; (try with_reducible rfl))); (try simp only [Act.put, zF, zG, zH]))
  (refine TG.load (v := ?v18) (p := ?p18) (by simp only [zA, zB, zC]; rfl) rfl ?hw18 rfl ?hx18 (fun wq hSq => ?hy18) ?hn18; (case hw18 => rfl); (case hx18 => (simp only [Act.eval, zD, zA, zB, zC, zE]; (try rfl))); (case hy18 => (have kp1q := hSq.at kp1 (by intro hT; first | exact hT | exact absurd hT (by assumption) | omega | (simp only at hT; omega)); have kp2q := hSq.at kp2 (by intro hT; first | exact hT | exact absurd hT (by assumption) | omega | (simp only at hT; omega)); go_simp; (try with_reducible rfl))); (try simp only [Act.put, zF, zG, zH]))
  (refine TG.callM (f := ?f19) (args := ?r19) (NewL sgc 64 77 w.heap.size x.sg.l) (goodN sgc 64 77 w.heap.size x.sg.l) gK (by simp only [zA, zB, zC]; rfl) rfl ?hw19 (fun w1 => ?hy19) (fun T wq kq ltq hSq ub => ?hsp19) ?hn19; (case hw19 => rfl); (case hy19 => (go_simp; (first | with_reducible rfl | (constructor <;> with_reducible rfl)))); (case hsp19 => (have kp1q := hSq.at kp1 (by intro hT; first | exact hT | exact absurd hT (by assumption) | omega | (simp only at hT; omega)); have kp2q := hSq.at kp2 (by intro hT; first | exact hT | exact absurd hT (by assumption) | omega | (simp only at hT; omega)); exact (ownS_c (c := x.sg.c) (HX.out.1.sg.mod0 (m3.then0 hSq)) HX.out.2.sg).mono (fun e w' h => by obtain ⟨v, h1, h2, h3⟩ := h; exact ⟨v, h1, h3, newL h2 (m3.then0 hSq).size⟩))); rintro v19 ⟨wI, TI, hI⟩; replace gK := gK.and ((goodN sgc 64 77 w.heap.size x.sg.l) v19); skip; (try clear hI TI wI); (try simp only [Act.put, zF, zG, zH]))
  (refine TG.v0 (v := ?v20) (by simp only [zA, zB, zC]; rfl) rfl ?hw20 (fun w1 => ?hy20) ?hn20; (case hw20 => rfl); (case hy20 => (go_simp; (try with_reducible rfl))); (try simp only [Act.put, zF, zG, zH]))
  (refine TG.v0 (v := ?v21) (by simp only [zA, zB, zC]; rfl) rfl ?hw21 (fun w1 => ?hy21) ?hn21; (case hw21 => rfl); (case hy21 => (go_simp; (try with_reducible rfl))); (try simp only [Act.put, zF, zG, zH]))
  (refine TG.v0 (v := ?v22) (by simp only [zA, zB, zC]; rfl) rfl ?hw22 (fun w1 => ?hy22) ?hn22; (case hw22 => rfl); (case hy22 => (go_simp; (try with_reducible rfl))); (try simp only [Act.put, zF, zG, zH]))
  (refine TG.load (v := ?v23) (p := ?p23) (by simp only [zA, zB, zC]; rfl) rfl ?hw23 rfl ?hx23 (fun wq hSq => ?hy23) ?hn23; (case hw23 => rfl); (case hx23 => (simp only [Act.eval, zD, zA, zB, zC, zE]; (try rfl))); (case hy23 => (have kp1q := hSq.at kp1 (by intro hT; first | exact hT | exact absurd hT (by assumption) | omega | (simp only at hT; omega)); have kp2q := hSq.at kp2 (by intro hT; first | exact hT | exact absurd hT (by assumption) | omega | (simp only at hT; omega)); go_simp; (try with_reducible rfl))); (try simp only [Act.put, zF, zG, zH]))
  (refine TG.callM (f := ?f24) (args := ?r24) (NewL kc 32 69 w.heap.size x.ks.l) (goodN kc 32 69 w.heap.size x.ks.l) gK (by simp only [zA, zB, zC]; rfl) rfl ?hw24 (fun w1 => ?hy24) (fun T wq kq ltq hSq ub => ?hsp24) ?hn24; (case hw24 => rfl); (case hy24 => (go_simp; (first | with_reducible rfl | (constructor <;> with_reducible rfl)))); (case hsp24 => (have kp1q := hSq.at kp1 (by intro hT; first | exact hT | exact absurd hT (by assumption) | omega | (simp only at hT; omega)); have kp2q := hSq.at kp2 (by intro hT; first | exact hT | exact absurd hT (by assumption) | omega | (simp only at hT; omega)); exact (ownK_c (c := x.ks.c) (HX.out.1.ks.mod0 (m3.then0 hSq)) HX.out.2.ks).mono (fun e w' h => by obtain ⟨v, h1, h2, h3⟩ := h; exact ⟨v, h1, h3, newL h2 (m3.then0 hSq).size⟩))); rintro v24 ⟨wI, TI, hI⟩; replace gK := gK.and ((goodN kc 32 69 w.heap.size x.ks.l) v24); skip; (try clear hI TI wI); (try simp only [Act.put, zF, zG, zH]))
  (refine TG.v0 (v := ?v25) (by simp only [zA, zB, zC]; rfl) rfl ?hw25 (fun w1 => ?hy25) ?hn25; (case hw25 => rfl); (case hy25 => (go_simp; (try with_reducible rfl))); (try simp only [Act.put, zF, zG, zH]))
  (refine TG.v0 (v := ?v26) (by simp only [zA, zB, zC]; rfl) rfl ?hw26 (fun w1 => ?hy26) ?hn26; (case hw26 => rfl); (case hy26 => (go_simp; (try with_reducible rfl))); (try simp only [Act.put, zF, zG, zH]))
  (refine TG.v0 (v := ?v27) (by simp only [zA, zB, zC]; rfl) rfl ?hw27 (fun w1 => ?hy27) ?hn27; (case hw27 => rfl); (case hy27 => (go_simp; (try with_reducible rfl))); (try simp only [Act.put, zF, zG, zH]))
  (refine TG.load (v := ?v28) (p := ?p28) (by simp only [zA, zB, zC]; rfl) rfl ?hw28 rfl ?hx28 (fun wq hSq => ?hy28) ?hn28; (case hw28 => rfl); (case hx28 => (simp only [Act.eval, zD, zA, zB, zC, zE]; (try rfl))); (case hy28 => (have kp1q := hSq.at kp1 (by intro hT; first | exact hT | exact absurd hT (by assumption) | omega | (simp only at hT; omega)); have kp2q := hSq.at kp2 (by intro hT; first | exact hT | exact absurd hT (by assumption) | omega | (simp only at hT; omega)); go_simp; (try with_reducible rfl))); (try simp only [Act.put, zF, zG, zH]))
  (refine TG.callM (f := ?f29) (args := ?r29) (NewL inr 3 71 w.heap.size x.ins.l) (goodN inr 3 71 w.heap.size x.ins.l) gK (by simp only [zA, zB, zC]; rfl) rfl ?hw29 (fun w1 => ?hy29) (fun T wq kq ltq hSq ub => ?hsp29) ?hn29; (case hw29 => rfl); (case hy29 => (go_simp; (first | with_reducible rfl | (constructor <;> with_reducible rfl)))); (case hsp29 => (have kp1q := hSq.at kp1 (by intro hT; first | exact hT | exact absurd hT (by assumption) | omega | (simp only at hT; omega)); have kp2q := hSq.at kp2 (by intro hT; first | exact hT | exact absurd hT (by assumption) | omega | (simp only at hT; omega)); exact (ownI_c (c := x.ins.c) (HX.out.1.ins.mod0 (m3.then0 hSq)) (by have := HX.out.2.ins; simpa [RdR.con] using this)).mono (fun e w' h => by obtain ⟨v, h1, h2, h3⟩ := h; exact ⟨v, h1, h3, newL h2 (m3.then0 hSq).size⟩))); rintro v29 ⟨wI, TI, hI⟩; replace gK := gK.and ((goodN inr 3 71 w.heap.size x.ins.l) v29); skip; (try clear hI TI wI); (try simp only [Act.put, zF, zG, zH]))
  (refine TG.v0 (v := ?v30) (by simp only [zA, zB, zC]; rfl) rfl ?hw30 (fun w1 => ?hy30) ?hn30; (case hw30 => rfl); (case hy30 => (go_simp; (try with_reducible rfl))); (try simp only [Act.put, zF, zG, zH]))
  (refine TG.v0 (v := ?v31) (by simp only [zA, zB, zC]; rfl) rfl ?hw31 (fun w1 => ?hy31) ?hn31; (case hw31 => rfl); (case hy31 => (go_simp; (try with_reducible rfl))); (try simp only [Act.put, zF, zG, zH]))
  (refine TG.v0 (v := ?v32) (by simp only [zA, zB, zC]; rfl) rfl ?hw32 (fun w1 => ?hy32) ?hn32; (case hw32 => rfl); (case hy32 => (go_simp; (try with_reducible rfl))); (try simp only [Act.put, zF, zG, zH]))
  (refine TG.load (v := ?v33) (p := ?p33) (by simp only [zA, zB, zC]; rfl) rfl ?hw33 rfl ?hx33 (fun wq hSq => ?hy33) ?hn33; (case hw33 => rfl); (case hx33 => (simp only [Act.eval, zD, zA, zB, zC, zE]; (try rfl))); (case hy33 => (have kp1q := hSq.at kp1 (by intro hT; first | exact hT | exact absurd hT (by assumption) | omega | (simp only at hT; omega)); have kp2q := hSq.at kp2 (by intro hT; first | exact hT | exact absurd hT (by assumption) | omega | (simp only at hT; omega)); go_simp; (try with_reducible rfl))); (try simp only [Act.put, zF, zG, zH]))
  (refine TG.callM (f := ?f34) (args := ?r34) (NewL lor 34 73 w.heap.size x.lks.l) (goodN lor 34 73 w.heap.size x.lks.l) gK (by simp only [zA, zB, zC]; rfl) rfl ?hw34 (fun w1 => ?hy34) (fun T wq kq ltq hSq ub => ?hsp34) ?hn34; (case hw34 => rfl); (case hy34 => (go_simp; (first | with_reducible rfl | (constructor <;> with_reducible rfl)))); (case hsp34 => (have kp1q := hSq.at kp1 (by intro hT; first | exact hT | exact absurd hT (by assumption) | omega | (simp only at hT; omega)); have kp2q := hSq.at kp2 (by intro hT; first | exact hT | exact absurd hT (by assumption) | omega | (simp only at hT; omega)); exact (ownL_c (c := x.lks.c) (HX.out.1.lks.mod0 (m3.then0 hSq)) (by have := HX.out.2.lks; simpa [RdR.con] using this)).mono (fun e w' h => by obtain ⟨v, h1, h2, h3⟩ := h; exact ⟨v, h1, h3, newL h2 (m3.then0 hSq).size⟩))); rintro v34 ⟨wI, TI, hI⟩; replace gK := gK.and ((goodN lor 34 73 w.heap.size x.lks.l) v34); skip; (try clear hI TI wI); (try simp only [Act.put, zF, zG, zH]))
  (refine TG.v0 (v := ?v35) (by simp only [zA, zB, zC]; rfl) rfl ?hw35 (fun w1 => ?hy35) ?hn35; (case hw35 => rfl); (case hy35 => (go_simp; (try with_reducible rfl))); (try simp only [Act.put, zF, zG, zH]))
  (refine TG.v0 (v := ?v36) (by simp only [zA, zB, zC]; rfl) rfl ?hw36 (fun w1 => ?hy36) ?hn36; (case hw36 => rfl); (case hy36 => (go_simp; (try with_reducible rfl))); (try simp only [Act.put, zF, zG, zH]))
  refine TG.nil (fun w4 ⟨TR, hr⟩ => ?_)
  have kp1 := hr.mod.at kp1 (by intro hT; first | exact hT | exact absurd hT (by assumption) | omega | (simp only at hT; omega))
  have kp2 := hr.mod.at kp2 (by intro hT; first | exact hT | exact absurd hT (by assumption) | omega | (simp only at hT; omega))
  clear gK
  obtain ⟨⟨⟨⟨_, hN16, hT16⟩, hN21, hT21⟩, hN26, hT26⟩, hN31, hT31⟩ := hr.k
  have hp1 : ∀ g, TR g → g ≠ p1 := fun g hg e => (hr.old g (e ▸ Lkp1) hg).elim
  have hrm := hr.mod
  have m4 := m3.then0 hr.mod
  obtain ⟨a16, e16, _⟩ := hN16.at
  obtain ⟨a21, e21, _⟩ := hN21.at
  obtain ⟨a26, e26, _⟩ := hN26.at
  obtain ⟨a31, e31, _⟩ := hN31.at
  subst e16
  subst e21
  subst e26
  subst e31
  have HN := Lib.hid (And.intro hN16 (And.intro hT16 (And.intro hN21 (And.intro hT21 (And.intro hN26 (And.intro hT26 (And.intro hN31 (And.intro hT31 (And.intro hp1 hrm)))))))))
  clear hr hN16 hT16 hN21 hT21 hN26 hT26 hN31 hT31 hp1 hrm
  generalize hl16 : x.sg.l.length = l16 at *
  generalize hl21 : x.ks.l.length = l21 at *
  generalize hl26 : x.ins.l.length = l26 at *
  generalize hl31 : x.lks.l.length = l31 at *
  refine TE.step (by simp only [zA, zB, zC]; rfl) rfl ?_
  (refine eff_store (X := ?X37) (Y := ?Y37) (w' := ?w37) (by simp only [zA, zB, zC]; rfl) ?hw37 rfl ?hx37 ?hz37 ?hy37 ?hn37; (case hw37 => rfl); (case hx37 => (simp only [Act.eval, zD, zA, zB, zC, zE]; (try rfl))); (case hz37 => (simp only [Act.eval, zD, zA, zB, zC, zE]; (try rfl))); (case hy37 => (go_simp; (try with_reducible rfl))))
  (first | refine TE.mid_set kp1 (fun wn kp1 mS => ?_) | refine TE.mid_setCell kp1 (fun wn kp1 mS => ?_))
  have kp2 := mS.at_ne kp2 hne12
  have mp := mS
  clear mS
  (refine TE.val0 (v := ?v38) (by simp only [zA, zB, zC]; rfl) ?hw38 (fun w1 => ?hy38) ?hn38; (case hw38 => rfl); (case hy38 => (go_simp; (try with_reducible rfl))); (try simp only [Act.put, zF, zG, zH]))
  (refine TE.val0 (v := ?v39) (by simp only [zA, zB, zC]; rfl) ?hw39 (fun w1 => ?hy39) ?hn39; (case hw39 => rfl); (case hy39 => (go_simp; (try with_reducible rfl))); (try simp only [Act.put, zF, zG, zH]))
  refine TE.step (by simp only [zA, zB, zC]; rfl) rfl ?_
  (refine eff_store (X := ?X40) (Y := ?Y40) (w' := ?w40) (by simp only [zA, zB, zC]; rfl) ?hw40 rfl ?hx40 ?hz40 ?hy40 ?hn40; (case hw40 => rfl); (case hx40 => (simp only [Act.eval, zD, zA, zB, zC, zE]; (try rfl))); (case hz40 => (simp only [Act.eval, zD, zA, zB, zC, zE]; (try rfl))); (case hy40 => (go_simp; (try with_reducible rfl))))
  (first | refine TE.mid_set kp1 (fun wn kp1 mS => ?_) | refine TE.mid_setCell kp1 (fun wn kp1 mS => ?_))
  have kp2 := mS.at_ne kp2 hne12
  have mp := mp.trans mS
  clear mS
  (refine TE.val0 (v := ?v41) (by simp only [zA, zB, zC]; rfl) ?hw41 (fun w1 => ?hy41) ?hn41; (case hw41 => rfl); (case hy41 => (go_simp; (try with_reducible rfl))); (try simp only [Act.put, zF, zG, zH]))
  (refine TE.val0 (v := ?v42) (by simp only [zA, zB, zC]; rfl) ?hw42 (fun w1 => ?hy42) ?hn42; (case hw42 => rfl); (case hy42 => (go_simp; (try with_reducible rfl))); (try simp only [Act.put, zF, zG, zH]))
  refine TE.step (by simp only [zA, zB, zC]; rfl) rfl ?_
  (refine eff_store (X := ?X43) (Y := ?Y43) (w' := ?w43) (by simp only [zA, zB, zC]; rfl) ?hw43 rfl ?hx43 ?hz43 ?hy43 ?hn43; (case hw43 => rfl); (case hx43 => (simp only [Act.eval, zD, zA, zB, zC, zE]; (try rfl))); (case hz43 => (simp only [Act.eval, zD, zA, zB, zC, zE]; (try rfl))); (case hy43 => (go_simp; (try with_reducible rfl))))
  (first | refine TE.mid_set kp1 (fun wn kp1 mS => ?_) | refine TE.mid_setCell kp1 (fun wn kp1 mS => ?_))
  have kp2 := mS.at_ne kp2 hne12
  have mp := mp.trans mS
  clear mS
  (refine TE.val0 (v := ?v44) (by simp only [zA, zB, zC]; rfl) ?hw44 (fun w1 => ?hy44) ?hn44; (case hw44 => rfl); (case hy44 => (go_simp; (try with_reducible rfl))); (try simp only [Act.put, zF, zG, zH]))
  (refine TE.val0 (v := ?v45) (by simp only [zA, zB, zC]; rfl) ?hw45 (fun w1 => ?hy45) ?hn45; (case hw45 => rfl); (case hy45 => (go_simp; (try with_reducible rfl))); (try simp only [Act.put, zF, zG, zH]))
  refine TE.step (by simp only [zA, zB, zC]; rfl) rfl ?_
  (refine eff_store (X := ?X46) (Y := ?Y46) (w' := ?w46) (by simp only [zA, zB, zC]; rfl) ?hw46 rfl ?hx46 ?hz46 ?hy46 ?hn46; (case hw46 => rfl); (case hx46 => (simp only [Act.eval, zD, zA, zB, zC, zE]; (try rfl))); (case hz46 => (simp only [Act.eval, zD, zA, zB, zC, zE]; (try rfl))); (case hy46 => (go_simp; (try with_reducible rfl))))
  (first | refine TE.nil_set kp1 (fun wn kp1 mS => ?_) | refine TE.nil_setCell kp1 (fun wn kp1 mS => ?_))
  have kp2 := mS.at_ne kp2 hne12
  have mp := mp.trans mS
  clear mS
  have m5 := m4.thenB mp (.inl gp1)
  obtain ⟨y2, hy2⟩ : ∃ y2 : RdR, y2 = { y1 with sg := ⟨a16, x.sg.l, l16⟩, ks := ⟨a21, x.ks.l, l21⟩, ins := ⟨a26, x.ins.l, l26⟩, lks := ⟨a31, x.lks.l, l31⟩ } := ⟨_, rfl⟩
  replace kp1 : wn.heap[p1]? = some (.cells (rdr y2) 48 (0, 0)) := by
    rw [set_sg x.sg.l hl16, set_ks x.ks.l hl21, set_ins x.ins.l hl26, set_lks x.lks.l hl31] at kp1
    rw [hy2]
    exact kp1
  have hins : y2.ins = ⟨a26, x.ins.l, l26⟩ := by rw [hy2]
  have hlks : y2.lks = ⟨a31, x.lks.l, l31⟩ := by rw [hy2]
  have HF : Hid (NewS uc 1 5 w.heap.size wn (.slice a5 lb lb) x.b.l ∧ NewS rcr 34 75 w.heap.size wn (.slice a8 lr lr) x.ro.l ∧ NewS sgc 64 77 w.heap.size wn (.slice a16 l16 l16) x.sg.l ∧ NewS kc 32 69 w.heap.size wn (.slice a21 l21 l21) x.ks.l ∧ NewS lor 34 73 w.heap.size wn (.slice a31 l31 l31) x.lks.l) := Lib.hid (by
    obtain ⟨q1, q2, q3, q4, q5, q6, q7, q8, q9, q10⟩ := HN.out
    have hpl : ∀ g, g < w3.heap.size → g ≠ p1 → wn.heap[g]? = w3.heap[g]? := fun g hg hne => (mp.block g (Nat.lt_of_lt_of_le hg q10.size) hne).trans (q10.block g hg (fun h => h))
    have hb1 : ∀ {α : Type} {f : α → Array Value} {n : Nat} {E : TypeId} {v : Value} {l : List α}, E ≠ 48 → NewS f n E w.heap.size w3 v l → NewS f n E w.heap.size wn v l := fun {α f n E v l} hE h => by
      refine ((h.mod0 q10).mod mp (fun g hg e => ?_))
      obtain ⟨c, kc⟩ := (h.mod0 q10).ty hg
      subst e
      have := q10.at0 HP1.out
      rw [this] at kc
      injection kc with kc
      injection kc with _ kc
      exact hE kc.symm
    exact ⟨hb1 (by decide) HN3.out.1, hb1 (by decide) HN3.out.2, q1.mod mp (fun g hg => q9 g (q2 g hg)), q3.mod mp (fun g hg => q9 g (q4 g hg)), q7.mod mp (fun g hg => q9 g (q8 g hg))⟩)
  have HI0 : Hid (LpI w.heap.size wn (.slice a26 l26 l26) x.ins.l x.ins.l 0) := Lib.hid (by
    obtain ⟨q1, q2, q3, q4, q5, q6, q7, q8, q9, q10⟩ := HN.out
    exact ⟨rfl, q5.mod mp (fun g hg => q9 g (q6 g hg)), fun j y z hj => by omega, fun _ _ => rfl⟩)
  have HY2 := Lib.hid hy2
  have HLL := Lib.hid (And.intro hl16 (And.intro hl21 (And.intro hl26 hl31)))
  obtain ⟨w5, rfl⟩ : ∃ w5 : World, w5 = wn := ⟨_, rfl⟩
  have hB26 : l26 ≤ 1000000 := by have := HX.out.2.ins; rw [← hl26]; simpa [RdR.con] using this
  have hB31 : l31 ≤ 1000000 := by have := HX.out.2.lks; rw [← hl31]; simpa [RdR.con] using this
  clear HN mp m4 hy2 hl16 hl21 hysg hyks hyin hylk HN3
  go_wp2_with fail
  go_loopw [53, 4, 5] (fun s53 s4 s5 ws => ∃ (i : Nat) (L : List InR), i ≤ l26 ∧ s53 = .int .i64 (i : Int) ∧ Hid (LpI w.heap.size ws (.slice a26 l26 l26) x.ins.l L i) ∧ Mod (fun b => (Value.slice a26 l26 l26).ownBlock = some b) w5 ws ∧ Mod (fun _ => False) w ws ∧ ws.heap[p1]? = some (.cells (rdr y2) 48 (0, 0)) ∧ ws.heap[p2]? = some (.cells zRdy 48 (0, 0))) (fun s53 _ _ _ => l26 - (intOf s53).toNat)
  case atStart => exact ⟨0, x.ins.l, by omega, rfl, HI0, Mod.refl _ _, m5, kp1, kp2⟩
  case round =>
    obtain ⟨i, L, hi, rfl, HP, hmL, hm0, kp1, kp2⟩ := hrel
    by_cases hlt : i < l26
    · obtain ⟨z, hz⟩ : ∃ z, x.ins.l[i]? = some z := ⟨_, List.getElem?_eq_getElem (by have := HLL.out; omega)⟩
      have hLz : L[i]? = some z := by rw [HP.out.rest i (Nat.le_refl _), hz]
      have hLlen : L.length = l26 := by rw [HP.out.len]; have := HLL.out; omega
      obtain ⟨g, cur, hv, hgb, kg, hrow⟩ : ∃ g cur, Value.slice a26 l26 l26 = .slice (some ⟨g, 0, none⟩) l26 l26 ∧ w.heap.size ≤ g ∧ wr.heap[g]? = some (.cells cur 71 (0, 0)) ∧ ∀ (j : Nat) y, L[j]? = some y → cur.extract (j * 3) (j * 3 + 3) = inr y ∧ j * 3 + 3 ≤ cur.size := by
        rcases HP.out.rows with ⟨_, h⟩ | ⟨g, cur, h1, h2, h3, h4⟩
        · rw [h] at hLz; cases hLz
        · rw [hLlen] at h1
          exact ⟨g, cur, h1, h2, h3, h4⟩
      injection hv with hv _ _
      obtain ⟨he, hle⟩ := hrow i z hLz
      have hgp1 : g ≠ p1 := ne_of_obj kg kp1 (obj_ty (by decide))
      have hgp2 : g ≠ p2 := ne_of_obj kg kp2 (obj_ty (by decide))
      have hzm : z ∈ x.ins.l := List.mem_of_getElem? hz
      have hzb := HX.out.1.insB z hzm
      have hzl : z.a.l.length ≤ 1000000 ∧ z.d.l.length ≤ 1000000 := HX.out.2.insB z.con (by show _ ∈ x.ins.l.map _; exact List.mem_map.2 ⟨z, hzm, rfl⟩)
      have hc1 : cur[i * 3 + 1]? = some (.slice z.a.a z.a.l.length z.a.c) := cellC he (j := 1) (inr1 z)
      have hc2 : cur[i * 3 + 2]? = some (.slice z.d.a z.d.l.length z.d.c) := cellC he (j := 2) (inr2 z)
      have HZ := Lib.hid (And.intro hz (And.intro hLz (And.intro hLlen (And.intro hgb (And.intro hrow (And.intro hzb (And.intro hzl hv)))))))
      obtain ⟨wa, rfl⟩ : ∃ wa : World, wa = wr := ⟨_, rfl⟩
      have hlenE := HLL.out
      clear hrow hzb hzl hz hLz hLlen
      go_upto_region 6 with fail
      have Lkp1 := lt_size kp1
      have Lkp2 := lt_size kp2
      have Lkg := lt_size kg
      refine wp_pass0 (C := fun _ _ _ => False) (κ := fun i => [0, 0, 1, 3, 0, 4].getD i 0) [0, 1, 2, 3, 4, 5] (by kernel_rfl) (by kernel_rfl) (fun _ _ d _ _ h => by cases d <;> first | exact h | exact absurd h (hP _ _ _)) ?_
      (refine TD.val0 (v := ?v47) (by simp only [zA, zB, zC]; rfl) rfl ?hw47 (fun w1 => ?hy47) ?hn47; (case hw47 => rfl); (case hy47 => (go_simp; (try with_reducible rfl))); (try simp only [Act.put, zF, zG, zH]))
      (refine TD.val0 (v := ?v48) (by simp only [zA, zB, zC]; rfl) rfl ?hw48 (fun w1 => ?hy48) ?hn48; (case hw48 => rfl); (case hy48 => (go_simp; (try with_reducible rfl))); (try simp only [Act.put, zF, zG, zH]))
      (refine TD.load (v := ?v49) (p := ?p49) (Mod.refl _ _) (by simp only [zA, zB, zC]; rfl) rfl ?hw49 rfl ?hx49 (fun wq hSq => ?hy49) ?hn49; (case hw49 => rfl); (case hx49 => (simp only [Act.eval, zD, zA, zB, zC, zE]; (try rfl))); (case hy49 => (have kp1q := hSq.at kp1 (fun h => h); have kp2q := hSq.at kp2 (fun h => h); have kgq := hSq.at kg (fun h => h); go_simp; (try with_reducible rfl))); (try simp only [Act.put, zF, zG, zH]))
      (refine TD.allocB (by simp only [zA, zB, zC]; rfl) rfl ?hw50 rfl rfl alIn (fun p5 hp5 => ?hn50); (case hw50 => rfl); (try simp only [Act.put, zF, zG, zH]))
      (refine TD.val0 (v := ?v51) (by simp only [zA, zB, zC]; rfl) rfl ?hw51 (fun w1 => ?hy51) ?hn51; (case hw51 => rfl); (case hy51 => (go_simp; (try with_reducible rfl))); (try simp only [Act.put, zF, zG, zH]))
      (refine TD.storeB (d := ?d52) (T := ?T52) (y := ?y52) (p := ?p52) (b := ?b52) (v := ?v52) (by simp only [zA, zB, zC]; rfl) rfl ?hw52 ?hd52 ?hop52 ?hev52 ?hx52 ?hb52 ?htag52 (fun w1 hb1 => ?hy52) ?hn52; (case hw52 => rfl); (case hd52 => rfl); (case hop52 => rfl); (case hev52 => (simp only [Act.eval, zD, zA, zB, zC, zE]; (try rfl))); (case hx52 => (simp only [Act.eval, zD, zA, zB, zC, zE]; (try rfl))); (case hb52 => first | exact Bx.set_same _ _ _ | (simp only [Bx.set_same]; rfl)); (case hy52 => (go_simp; (try first | with_reducible rfl | (rw [setCell_blk hb1]; rfl)))); (try simp only [Act.put, zF, zG, zH]))
      refine TD.nil (fun w6 hr => ?_)
      have kp1 := hr.mod.at kp1 (fun h => h)
      have kp2 := hr.mod.at kp2 (fun h => h)
      have kg := hr.mod.at kg (fun h => h)
      have kp5 := hr.box p5 _ (by first | exact Bx.set_same _ _ _ | (simp only [Bx.set_same]; rfl)); dsimp only [Value.cells] at kp5; obtain ⟨gp5, kp5⟩ := kp5
      have mA := hr.mod
      clear hr
      go_upto_region 7 with fail
      have kgA := kg
      have Lkp1 := lt_size kp1
      have Lkp2 := lt_size kp2
      have Lkg := lt_size kg
      have Lkp5 := lt_size kp5
      refine wp_region_any (by kernel_rfl) ?_
      change wpAny _ .any _ _ 22 _ _ _
      (refine take_first (i := 9) (v := ?v53) (by simp only [zA, zB, zC]; rfl) (by kernel_rfl) (fun _ _ d _ _ h => by cases d <;> first | exact h | exact absurd h (hP _ _ _)) ?hw53 (fun w1 => ?hy53) ?hn53; (case hw53 => rfl); (case hy53 => (go_simp; (try with_reducible rfl))); (try simp only [Act.put, zF, zG, zH]))
      refine e_anyL (T0 := fun _ => False) (K := fun _ _ => True) (κ := fun i => [0, 0, 0, 0, 0, 0, 0, 0, 0, 0, 0, 0, 6, 0, 0, 6, 0, 0, 6, 0, 0, 6].getD i 0) (υ := fun i => [[], [], [], [], [], [], [], [], [], [], [], [], [], [], [], [], [], [], [], [], [], []].getD i []) (fun _ _ d _ _ h => by cases d <;> first | exact h | exact absurd h (hP _ _ _)) [0, 1, 2, 3, 4, 5, 6, 7, 8, 10, 11, 12, 13, 14, 15, 16, 17] [18, 19, 20, 21] (by kernel_rfl) (Good.true).cl (rg_drew (Good.true).cl (trivial) (fun _ h => h.elim)) ?_
      have gK := Good.true
      (refine TG.v0 (v := ?v54) (by simp only [zA, zB, zC]; rfl) rfl ?hw54 (fun w1 => ?hy54) ?hn54; (case hw54 => rfl); (case hy54 => (go_simp; (try with_reducible rfl))); (try simp only [Act.put, zF, zG, zH]))
      (refine TG.v0 (v := ?v55) (by simp only [zA, zB, zC]; rfl) rfl ?hw55 (fun w1 => ?hy55) ?hn55; (case hw55 => rfl); (case hy55 => (go_simp; (try with_reducible rfl))); (try simp only [Act.put, zF, zG, zH]))
      (refine TG.v0 (v := ?v56) (by simp only [zA, zB, zC]; rfl) rfl ?hw56 (fun w1 => ?hy56) ?hn56; (case hw56 => rfl); (case hy56 => (go_simp; (try with_reducible rfl))); (try simp only [Act.put, zF, zG, zH]))
      (refine TG.load (v := ?v57) (p := ?p57) (by simp only [zA, zB, zC]; rfl) rfl ?hw57 rfl ?hx57 (fun wq hSq => ?hy57) ?hn57; (case hw57 => rfl); (case hx57 => (simp only [Act.eval, zD, zA, zB, zC, zE]; (try rfl))); (case hy57 => (have kp1q := hSq.at kp1 (by intro hT; first | exact hT | exact absurd hT (by assumption) | omega | (simp only at hT; omega)); have kp2q := hSq.at kp2 (by intro hT; first | exact hT | exact absurd hT (by assumption) | omega | (simp only at hT; omega)); have kgq := hSq.at kg (by intro hT; first | exact hT | exact absurd hT (by assumption) | omega | (simp only at hT; omega)); have kp5q := hSq.at kp5 (by intro hT; first | exact hT | exact absurd hT (by assumption) | omega | (simp only at hT; omega)); go_simp; (try with_reducible rfl))); (try simp only [Act.put, zF, zG, zH]))
      (refine TG.v0 (v := ?v58) (by simp only [zA, zB, zC]; rfl) rfl ?hw58 (fun w1 => ?hy58) ?hn58; (case hw58 => rfl); (case hy58 => (go_simp; (try with_reducible rfl))); (try simp only [Act.put, zF, zG, zH]))
      (refine TG.v0 (v := ?v59) (by simp only [zA, zB, zC]; rfl) rfl ?hw59 (fun w1 => ?hy59) ?hn59; (case hw59 => rfl); (case hy59 => (go_simp; (try with_reducible rfl))); (try simp only [Act.put, zF, zG, zH]))
      (refine TG.v0 (v := ?v60) (by simp only [zA, zB, zC]; rfl) rfl ?hw60 (fun w1 => ?hy60) ?hn60; (case hw60 => rfl); (case hy60 => (go_simp; (try with_reducible rfl))); (try simp only [Act.put, zF, zG, zH]))
      (refine TG.v0 (v := ?v61) (by simp only [zA, zB, zC]; rfl) rfl ?hw61 (fun w1 => ?hy61) ?hn61; (case hw61 => rfl); (case hy61 => (go_simp; (try with_reducible rfl))); (try simp only [Act.put, zF, zG, zH]))
      (refine TG.load (v := ?v62) (p := ?p62) (by simp only [zA, zB, zC]; rfl) rfl ?hw62 rfl ?hx62 (fun wq hSq => ?hy62) ?hn62; (case hw62 => rfl); (case hx62 => (simp only [Act.eval, zD, zA, zB, zC, zE]; (try rfl))); (case hy62 => (have kp1q := hSq.at kp1 (by intro hT; first | exact hT | exact absurd hT (by assumption) | omega | (simp only at hT; omega)); have kp2q := hSq.at kp2 (by intro hT; first | exact hT | exact absurd hT (by assumption) | omega | (simp only at hT; omega)); have kgq := hSq.at kg (by intro hT; first | exact hT | exact absurd hT (by assumption) | omega | (simp only at hT; omega)); have kp5q := hSq.at kp5 (by intro hT; first | exact hT | exact absurd hT (by assumption) | omega | (simp only at hT; omega)); go_simp; (try with_reducible rfl))); (try simp only [Act.put, zF, zG, zH]))
      (refine TG.v0 (v := ?v63) (by simp only [zA, zB, zC]; rfl) rfl ?hw63 (fun w1 => ?hy63) ?hn63; (case hw63 => rfl); (case hy63 => (go_simp; (try with_reducible rfl))); (try simp only [Act.put, zF, zG, zH]))
      (refine TG.load (v := ?v64) (p := ?p64) (by simp only [zA, zB, zC]; rfl) rfl ?hw64 rfl ?hx64 (fun wq hSq => ?hy64) ?hn64; (case hw64 => rfl); (case hx64 => (simp only [Act.eval, zD, zA, zB, zC, zE]; (try rfl))); (case hy64 => (have kp1q := hSq.at kp1 (by intro hT; first | exact hT | exact absurd hT (by assumption) | omega | (simp only at hT; omega)); have kp2q := hSq.at kp2 (by intro hT; first | exact hT | exact absurd hT (by assumption) | omega | (simp only at hT; omega)); have kgq := hSq.at kg (by intro hT; first | exact hT | exact absurd hT (by assumption) | omega | (simp only at hT; omega)); have kp5q := hSq.at kp5 (by intro hT; first | exact hT | exact absurd hT (by assumption) | omega | (simp only at hT; omega)); go_simp; (try with_reducible rfl))); (try simp only [Act.put, zF, zG, zH]))
      (refine TG.callM (f := ?f65) (args := ?r65) (NewL uc 1 5 w.heap.size z.a.l) (goodN uc 1 5 w.heap.size z.a.l) gK (by simp only [zA, zB, zC]; rfl) rfl ?hw65 (fun w1 => ?hy65) (fun T wq kq ltq hSq ub => ?hsp65) ?hn65; (case hw65 => rfl); (case hy65 => (go_simp; (first | with_reducible rfl | (constructor <;> with_reducible rfl)))); (case hsp65 => (have kp1q := hSq.at kp1 (by intro hT; first | exact hT | exact absurd hT (by assumption) | omega | (simp only at hT; omega)); have kp2q := hSq.at kp2 (by intro hT; first | exact hT | exact absurd hT (by assumption) | omega | (simp only at hT; omega)); have kgq := hSq.at kg (by intro hT; first | exact hT | exact absurd hT (by assumption) | omega | (simp only at hT; omega)); have kp5q := hSq.at kp5 (by intro hT; first | exact hT | exact absurd hT (by assumption) | omega | (simp only at hT; omega)); exact (ownB_c (c := z.a.c) (HZ.out.2.2.2.2.2.1.1.mod0 ((hm0.then0 mA).then0 hSq)) HZ.out.2.2.2.2.2.2.1.1).mono (fun e w' h => by obtain ⟨v, h1, h2, h3⟩ := h; exact ⟨v, h1, h3, newL h2 ((hm0.then0 mA).then0 hSq).size⟩))); rintro v65 ⟨wI, TI, hI⟩; replace gK := gK.and ((goodN uc 1 5 w.heap.size z.a.l) v65); skip; (try clear hI TI wI); (try simp only [Act.put, zF, zG, zH]))
      (refine TG.v0 (v := ?v66) (by simp only [zA, zB, zC]; rfl) rfl ?hw66 (fun w1 => ?hy66) ?hn66; (case hw66 => rfl); (case hy66 => (go_simp; (try with_reducible rfl))); (try simp only [Act.put, zF, zG, zH]))
      (refine TG.load (v := ?v67) (p := ?p67) (by simp only [zA, zB, zC]; rfl) rfl ?hw67 rfl ?hx67 (fun wq hSq => ?hy67) ?hn67; (case hw67 => rfl); (case hx67 => (simp only [Act.eval, zD, zA, zB, zC, zE]; (try rfl))); (case hy67 => (have kp1q := hSq.at kp1 (by intro hT; first | exact hT | exact absurd hT (by assumption) | omega | (simp only at hT; omega)); have kp2q := hSq.at kp2 (by intro hT; first | exact hT | exact absurd hT (by assumption) | omega | (simp only at hT; omega)); have kgq := hSq.at kg (by intro hT; first | exact hT | exact absurd hT (by assumption) | omega | (simp only at hT; omega)); have kp5q := hSq.at kp5 (by intro hT; first | exact hT | exact absurd hT (by assumption) | omega | (simp only at hT; omega)); go_simp; (try with_reducible rfl))); (try simp only [Act.put, zF, zG, zH]))
      (refine TG.callM (f := ?f68) (args := ?r68) (NewL uc 1 5 w.heap.size z.d.l) (goodN uc 1 5 w.heap.size z.d.l) gK (by simp only [zA, zB, zC]; rfl) rfl ?hw68 (fun w1 => ?hy68) (fun T wq kq ltq hSq ub => ?hsp68) ?hn68; (case hw68 => rfl); (case hy68 => (go_simp; (first | with_reducible rfl | (constructor <;> with_reducible rfl)))); (case hsp68 => (have kp1q := hSq.at kp1 (by intro hT; first | exact hT | exact absurd hT (by assumption) | omega | (simp only at hT; omega)); have kp2q := hSq.at kp2 (by intro hT; first | exact hT | exact absurd hT (by assumption) | omega | (simp only at hT; omega)); have kgq := hSq.at kg (by intro hT; first | exact hT | exact absurd hT (by assumption) | omega | (simp only at hT; omega)); have kp5q := hSq.at kp5 (by intro hT; first | exact hT | exact absurd hT (by assumption) | omega | (simp only at hT; omega)); exact (ownB_c (c := z.d.c) (HZ.out.2.2.2.2.2.1.2.mod0 ((hm0.then0 mA).then0 hSq)) HZ.out.2.2.2.2.2.2.1.2).mono (fun e w' h => by obtain ⟨v, h1, h2, h3⟩ := h; exact ⟨v, h1, h3, newL h2 ((hm0.then0 mA).then0 hSq).size⟩))); rintro v68 ⟨wI, TI, hI⟩; replace gK := gK.and ((goodN uc 1 5 w.heap.size z.d.l) v68); skip; (try clear hI TI wI); (try simp only [Act.put, zF, zG, zH]))
      (refine TG.v0 (v := ?v69) (by simp only [zA, zB, zC]; rfl) rfl ?hw69 (fun w1 => ?hy69) ?hn69; (case hw69 => rfl); (case hy69 => (go_simp; (try with_reducible rfl))); (try simp only [Act.put, zF, zG, zH]))
      (refine TG.v0 (v := ?v70) (by simp only [zA, zB, zC]; rfl) rfl ?hw70 (fun w1 => ?hy70) ?hn70; (case hw70 => rfl); (case hy70 => (go_simp; (try with_reducible rfl))); (try simp only [Act.put, zF, zG, zH]))
      refine TG.nil (fun w7 ⟨TR, hr⟩ => ?_)
      have kp1 := hr.mod.at kp1 (by intro hT; first | exact hT | exact absurd hT (by assumption) | omega | (simp only at hT; omega))
      have kp2 := hr.mod.at kp2 (by intro hT; first | exact hT | exact absurd hT (by assumption) | omega | (simp only at hT; omega))
      have kg := hr.mod.at kg (by intro hT; first | exact hT | exact absurd hT (by assumption) | omega | (simp only at hT; omega))
      have kp5 := hr.mod.at kp5 (by intro hT; first | exact hT | exact absurd hT (by assumption) | omega | (simp only at hT; omega))
      clear gK
      obtain ⟨⟨_, hNa, hTa⟩, hNb, hTb⟩ := hr.k
      have hgT : ∀ g', TR g' → g' ≠ g := fun g' hg e => (hr.old g (lt_size kgA) (e ▸ hg)).elim
      have mB := mA.then0 hr.mod
      have kgB := kg
      obtain ⟨aa, ea, _⟩ := hNa.at
      obtain ⟨ab, eb, _⟩ := hNb.at
      subst ea
      subst eb
      have HN := Lib.hid (And.intro hNa (And.intro hTa (And.intro hNb (And.intro hTb hgT))))
      clear hr hNa hTa hNb hTb hgT
      refine TE.step (by simp only [zA, zB, zC]; rfl) rfl ?_
      (refine eff_store (X := ?X71) (Y := ?Y71) (w' := ?w71) (by simp only [zA, zB, zC]; rfl) ?hw71 rfl ?hx71 ?hz71 ?hy71 ?hn71; (case hw71 => rfl); (case hx71 => (simp only [Act.eval, zD, zA, zB, zC, zE]; (try rfl))); (case hz71 => (simp only [Act.eval, zD, zA, zB, zC, zE]; (try rfl))); (case hy71 => (go_simp; (try with_reducible rfl))))
      (first | refine TE.mid_set kg (fun wn kg mS => ?_) | refine TE.mid_setCell kg (fun wn kg mS => ?_))
      replace kp1 := mS.at_ne kp1 (Ne.symm hgp1)
      replace kp2 := mS.at_ne kp2 (Ne.symm hgp2)
      have mp := mS
      clear mS
      (refine TE.val0 (v := ?v72) (by simp only [zA, zB, zC]; rfl) ?hw72 (fun w1 => ?hy72) ?hn72; (case hw72 => rfl); (case hy72 => (go_simp; (try with_reducible rfl))); (try simp only [Act.put, zF, zG, zH]))
      (refine TE.val0 (v := ?v73) (by simp only [zA, zB, zC]; rfl) ?hw73 (fun w1 => ?hy73) ?hn73; (case hw73 => rfl); (case hy73 => (go_simp; (try with_reducible rfl))); (try simp only [Act.put, zF, zG, zH]))
      refine TE.step (by simp only [zA, zB, zC]; rfl) rfl ?_
      (refine eff_store (X := ?X74) (Y := ?Y74) (w' := ?w74) (by simp only [zA, zB, zC]; rfl) ?hw74 rfl ?hx74 ?hz74 ?hy74 ?hn74; (case hw74 => rfl); (case hx74 => (simp only [Act.eval, zD, zA, zB, zC, zE]; (try rfl))); (case hz74 => (simp only [Act.eval, zD, zA, zB, zC, zE]; (try rfl))); (case hy74 => (go_simp; (try with_reducible rfl))))
      (first | refine TE.nil_set kg (fun wn kg mS => ?_) | refine TE.nil_setCell kg (fun wn kg mS => ?_))
      replace kp1 := mS.at_ne kp1 (Ne.symm hgp1)
      replace kp2 := mS.at_ne kp2 (Ne.symm hgp2)
      have mq := mp.trans mS
      clear mS
      have HPN : Hid (LpI w.heap.size wn (.slice a26 l26 l26) x.ins.l (L.set i ⟨z.p, ⟨aa, z.a.l, z.a.l.length⟩, ⟨ab, z.d.l, z.d.l.length⟩⟩) (i + 1)) := Lib.hid (by
        obtain ⟨hz, hLz, hLlen, hgb, hrow, _, _, hv⟩ := HZ.out
        obtain ⟨hNa, hTa, hNb, hTb, hgT⟩ := HN.out
        have hiL : i < L.length := by rw [hLlen]; exact hlt
        refine ⟨by rw [List.length_set]; exact HP.out.len, .inr ⟨g, _, by rw [List.length_set, hLlen, hv], hgb, kg, ?_⟩, fun j y z' hj hy hz' => ?_, fun j hj => ?_⟩
        · exact rows_set2 inr_size hrow hLz (by omega) (by omega) (inr_set z ⟨aa, z.a.l, z.a.l.length⟩ ⟨ab, z.d.l, z.d.l.length⟩)
        · by_cases hji : j = i
          · subst hji
            rw [List.getElem?_set_self hiL] at hy
            rw [hz] at hz'
            cases hy
            cases hz'
            exact ⟨rfl, hNa.mod mq (fun g' hg' => hgT g' (hTa g' hg')), hNb.mod mq (fun g' hg' => hgT g' (hTb g' hg'))⟩
          · rw [List.getElem?_set_ne (fun e => hji e.symm)] at hy
            refine ((HP.out.done j y z' (by omega) hy hz').mod mB (fun _ _ _ h => h)).mod mq (fun g' c k e => ?_)
            subst e
            rw [kgB] at k
            injection k with k
            injection k with _ k
            exact absurd k (by decide)
        · rw [List.getElem?_set_ne (by omega)]
          exact HP.out.rest j (by omega))
      have hmN : Mod (fun b => (Value.slice a26 l26 l26).ownBlock = some b) w5 wn := (hmL.then0 mB).then mq (fun b _ e => by
        subst e
        rw [hv]
        rfl)
      have hm0N : Mod (fun _ => False) w wn := (hm0.then0 mB).thenB mq (.inl HZ.out.2.2.2.1)
      have HQ := Lib.hid (And.intro hv (And.intro kp1 (And.intro kp2 (And.intro hmN hm0N))))
      clear hv kp1 kp2 hmN hm0N
      have hms : l26 - (i + 1) < l26 - i := by omega
      have HIi := Lib.hid (show (i : Int) + 1 = ((i + 1 : Nat) : Int) by omega)
      have HMs := Lib.hid hms
      clear hms
      go_wp2_with fail
      go_roundw
      case rel => exact ⟨i + 1, _, hlt, by go_num, HPN, HQ.out.2.2.2.1, HQ.out.2.2.2.2, HQ.out.2.1, HQ.out.2.2.1⟩
      case measure => simp [intOf]; omega
    · have hie : i = l26 := by omega
      have hpf : ∀ j : Nat, i = j → Hid (LpI w.heap.size wr (.slice a26 l26 l26) x.ins.l L j) := fun j e => by
        subst e
        exact HP
      have HPF := hpf _ hie
      clear hpf
      clear HP
      have HG : Hid (NewS uc 1 5 w.heap.size wr (.slice a5 lb lb) x.b.l ∧ NewS rcr 34 75 w.heap.size wr (.slice a8 lr lr) x.ro.l ∧ NewS sgc 64 77 w.heap.size wr (.slice a16 l16 l16) x.sg.l ∧ NewS kc 32 69 w.heap.size wr (.slice a21 l21 l21) x.ks.l ∧ NewS lor 34 73 w.heap.size wr (.slice a31 l31 l31) x.lks.l) := Lib.hid (by
        obtain ⟨f1, f2, f3, f4, f5⟩ := HF.out
        have h0 := HI0.out.rows
        exact ⟨f1.other h0 (by decide) hmL, f2.other h0 (by decide) hmL, f3.other h0 (by decide) hmL, f4.other h0 (by decide) hmL, f5.other h0 (by decide) hmL⟩)
      have HJ0 : Hid (LpL w.heap.size wr (.slice a31 l31 l31) x.lks.l x.lks.l 0) := Lib.hid ⟨rfl, HG.out.2.2.2.2, fun j y z hj => by omega, fun _ _ => rfl⟩
      have m5 := hm0
      obtain ⟨LI, hLI⟩ : ∃ LI, LI = L := ⟨_, rfl⟩
      subst hLI
      have HPI := HPF
      clear HPF
      obtain ⟨wb, rfl⟩ : ∃ wb : World, wb = wr := ⟨_, rfl⟩
      clear hm0 hmL
      go_wp2_with fail
      clear hie hi hlt
      go_loopw [84, 6, 7] (fun s84 s6 s7 ws => ∃ (i : Nat) (L : List LoR), i ≤ l31 ∧ s84 = .int .i64 (i : Int) ∧ Hid (LpL w.heap.size ws (.slice a31 l31 l31) x.lks.l L i) ∧ Mod (fun b => (Value.slice a31 l31 l31).ownBlock = some b) wb ws ∧ Mod (fun _ => False) w ws ∧ ws.heap[p1]? = some (.cells (rdr y2) 48 (0, 0)) ∧ ws.heap[p2]? = some (.cells zRdy 48 (0, 0))) (fun s84 _ _ _ => l31 - (intOf s84).toNat)
      case atStart => exact ⟨0, x.lks.l, by omega, rfl, HJ0, Mod.refl _ _, m5, kp1, kp2⟩
      case round =>
        obtain ⟨i, L, hi, rfl, HP, hmL, hm0, kp1, kp2⟩ := hrel
        by_cases hlt : i < l31
        · obtain ⟨z, hz⟩ : ∃ z, x.lks.l[i]? = some z := ⟨_, List.getElem?_eq_getElem (by have := HLL.out; omega)⟩
          have hLz : L[i]? = some z := by rw [HP.out.rest i (Nat.le_refl _), hz]
          have hLlen : L.length = l31 := by rw [HP.out.len]; have := HLL.out; omega
          obtain ⟨g, cur, hv, hgb, kg, hrow⟩ : ∃ g cur, Value.slice a31 l31 l31 = .slice (some ⟨g, 0, none⟩) l31 l31 ∧ w.heap.size ≤ g ∧ wr.heap[g]? = some (.cells cur 73 (0, 0)) ∧ ∀ (j : Nat) y, L[j]? = some y → cur.extract (j * 34) (j * 34 + 34) = lor y ∧ j * 34 + 34 ≤ cur.size := by
            rcases HP.out.rows with ⟨_, h⟩ | ⟨g, cur, h1, h2, h3, h4⟩
            · rw [h] at hLz; cases hLz
            · rw [hLlen] at h1
              exact ⟨g, cur, h1, h2, h3, h4⟩
          injection hv with hv _ _
          obtain ⟨he, hle⟩ := hrow i z hLz
          have hgp1 : g ≠ p1 := ne_of_obj kg kp1 (obj_ty (by decide))
          have hgp2 : g ≠ p2 := ne_of_obj kg kp2 (obj_ty (by decide))
          have hzm : z ∈ x.lks.l := List.mem_of_getElem? hz
          have hzb := HX.out.1.lksB z hzm
          have hzl : z.w.l.length ≤ 1000000 ∧ z.r.l.length ≤ 1000000 := HX.out.2.lksB z.con (by show _ ∈ x.lks.l.map _; exact List.mem_map.2 ⟨z, hzm, rfl⟩)
          have hc1 : cur[i * 34 + 32]? = some (.slice z.w.a z.w.l.length z.w.c) := cellC he (j := 32) (lor1 z)
          have hc2 : cur[i * 34 + 33]? = some (.slice z.r.a z.r.l.length z.r.c) := cellC he (j := 33) (lor2 z)
          have HZ := Lib.hid (And.intro hz (And.intro hLz (And.intro hLlen (And.intro hgb (And.intro hrow (And.intro hzb (And.intro hzl hv)))))))
          obtain ⟨wa, rfl⟩ : ∃ wa : World, wa = wr := ⟨_, rfl⟩
          have hlenE := HLL.out
          clear hrow hzb hzl hz hLz hLlen
          go_upto_region 11 with fail
          have Lkp1 := lt_size kp1
          have Lkp2 := lt_size kp2
          have Lkg := lt_size kg
          refine wp_pass0 (C := fun _ _ _ => False) (κ := fun i => [0, 0, 1, 3, 0, 4].getD i 0) [0, 1, 2, 3, 4, 5] (by kernel_rfl) (by kernel_rfl) (fun _ _ d _ _ h => by cases d <;> first | exact h | exact absurd h (hP _ _ _)) ?_
          (refine TD.val0 (v := ?v75) (by simp only [zA, zB, zC]; rfl) rfl ?hw75 (fun w1 => ?hy75) ?hn75; (case hw75 => rfl); (case hy75 => (go_simp; (try with_reducible rfl))); (try simp only [Act.put, zF, zG, zH]))
          (refine TD.val0 (v := ?v76) (by simp only [zA, zB, zC]; rfl) rfl ?hw76 (fun w1 => ?hy76) ?hn76; (case hw76 => rfl); (case hy76 => (go_simp; (try with_reducible rfl))); (try simp only [Act.put, zF, zG, zH]))
          (refine TD.load (v := ?v77) (p := ?p77) (Mod.refl _ _) (by simp only [zA, zB, zC]; rfl) rfl ?hw77 rfl ?hx77 (fun wq hSq => ?hy77) ?hn77; (case hw77 => rfl); (case hx77 => (simp only [Act.eval, zD, zA, zB, zC, zE]; (try rfl))); (case hy77 => (have kp1q := hSq.at kp1 (fun h => h); have kp2q := hSq.at kp2 (fun h => h); have kgq := hSq.at kg (fun h => h); go_simp; (try with_reducible rfl))); (try simp only [Act.put, zF, zG, zH]))
          (refine TD.allocB (by simp only [zA, zB, zC]; rfl) rfl ?hw78 rfl rfl alLo (fun p7 hp7 => ?hn78); (case hw78 => rfl); (try simp only [Act.put, zF, zG, zH]))
          (refine TD.val0 (v := ?v79) (by simp only [zA, zB, zC]; rfl) rfl ?hw79 (fun w1 => ?hy79) ?hn79; (case hw79 => rfl); (case hy79 => (go_simp; (try with_reducible rfl))); (try simp only [Act.put, zF, zG, zH]))
          (refine TD.storeB (d := ?d80) (T := ?T80) (y := ?y80) (p := ?p80) (b := ?b80) (v := ?v80) (by simp only [zA, zB, zC]; rfl) rfl ?hw80 ?hd80 ?hop80 ?hev80 ?hx80 ?hb80 ?htag80 (fun w1 hb1 => ?hy80) ?hn80; (case hw80 => rfl); (case hd80 => rfl); (case hop80 => rfl); (case hev80 => (simp only [Act.eval, zD, zA, zB, zC, zE]; (try rfl))); (case hx80 => (simp only [Act.eval, zD, zA, zB, zC, zE]; (try rfl))); (case hb80 => first | exact Bx.set_same _ _ _ | (simp only [Bx.set_same]; rfl)); (case hy80 => (go_simp; (try first | with_reducible rfl | (rw [setCell_blk hb1]; rfl)))); (try simp only [Act.put, zF, zG, zH]))
          refine TD.nil (fun w6 hr => ?_)
          have kp1 := hr.mod.at kp1 (fun h => h)
          have kp2 := hr.mod.at kp2 (fun h => h)
          have kg := hr.mod.at kg (fun h => h)
          have kp7 := hr.box p7 _ (by first | exact Bx.set_same _ _ _ | (simp only [Bx.set_same]; rfl)); dsimp only [Value.cells] at kp7; obtain ⟨gp7, kp7⟩ := kp7
          have mA := hr.mod
          clear hr
          go_upto_region 12 with fail
          have kgA := kg
          have Lkp1 := lt_size kp1
          have Lkp2 := lt_size kp2
          have Lkg := lt_size kg
          have Lkp7 := lt_size kp7
          refine wp_region_any (by kernel_rfl) ?_
          change wpAny _ .any _ _ 22 _ _ _
          (refine take_first (i := 9) (v := ?v81) (by simp only [zA, zB, zC]; rfl) (by kernel_rfl) (fun _ _ d _ _ h => by cases d <;> first | exact h | exact absurd h (hP _ _ _)) ?hw81 (fun w1 => ?hy81) ?hn81; (case hw81 => rfl); (case hy81 => (go_simp; (try with_reducible rfl))); (try simp only [Act.put, zF, zG, zH]))
          refine e_anyL (T0 := fun _ => False) (K := fun _ _ => True) (κ := fun i => [0, 0, 0, 0, 0, 0, 0, 0, 0, 0, 0, 0, 6, 0, 0, 6, 0, 0, 6, 0, 0, 6].getD i 0) (υ := fun i => [[], [], [], [], [], [], [], [], [], [], [], [], [], [], [], [], [], [], [], [], [], []].getD i []) (fun _ _ d _ _ h => by cases d <;> first | exact h | exact absurd h (hP _ _ _)) [0, 1, 2, 3, 4, 5, 6, 7, 8, 10, 11, 12, 13, 14, 15, 16, 17] [18, 19, 20, 21] (by kernel_rfl) (Good.true).cl (rg_drew (Good.true).cl (trivial) (fun _ h => h.elim)) ?_
          have gK := Good.true
          (refine TG.v0 (v := ?v82) (by simp only [zA, zB, zC]; rfl) rfl ?hw82 (fun w1 => ?hy82) ?hn82; (case hw82 => rfl); (case hy82 => (go_simp; (try with_reducible rfl))); (try simp only [Act.put, zF, zG, zH]))
          (refine TG.v0 (v := ?v83) (by simp only [zA, zB, zC]; rfl) rfl ?hw83 (fun w1 => ?hy83) ?hn83; (case hw83 => rfl); (case hy83 => (go_simp; (try with_reducible rfl))); (try simp only [Act.put, zF, zG, zH]))
          (refine TG.v0 (v := ?v84) (by simp only [zA, zB, zC]; rfl) rfl ?hw84 (fun w1 => ?hy84) ?hn84; (case hw84 => rfl); (case hy84 => (go_simp; (try with_reducible rfl))); (try simp only [Act.put, zF, zG, zH]))
          (refine TG.load (v := ?v85) (p := ?p85) (by simp only [zA, zB, zC]; rfl) rfl ?hw85 rfl ?hx85 (fun wq hSq => ?hy85) ?hn85; (case hw85 => rfl); (case hx85 => (simp only [Act.eval, zD, zA, zB, zC, zE]; (try rfl))); (case hy85 => (have kp1q := hSq.at kp1 (by intro hT; first | exact hT | exact absurd hT (by assumption) | omega | (simp only at hT; omega)); have kp2q := hSq.at kp2 (by intro hT; first | exact hT | exact absurd hT (by assumption) | omega | (simp only at hT; omega)); have kgq := hSq.at kg (by intro hT; first | exact hT | exact absurd hT (by assumption) | omega | (simp only at hT; omega)); have kp7q := hSq.at kp7 (by intro hT; first | exact hT | exact absurd hT (by assumption) | omega | (simp only at hT; omega)); go_simp; (try with_reducible rfl))); (try simp only [Act.put, zF, zG, zH]))
          (refine TG.v0 (v := ?v86) (by simp only [zA, zB, zC]; rfl) rfl ?hw86 (fun w1 => ?hy86) ?hn86; (case hw86 => rfl); (case hy86 => (go_simp; (try with_reducible rfl))); (try simp only [Act.put, zF, zG, zH]))
          (refine TG.v0 (v := ?v87) (by simp only [zA, zB, zC]; rfl) rfl ?hw87 (fun w1 => ?hy87) ?hn87; (case hw87 => rfl); (case hy87 => (go_simp; (try with_reducible rfl))); (try simp only [Act.put, zF, zG, zH]))
          (refine TG.v0 (v := ?v88) (by simp only [zA, zB, zC]; rfl) rfl ?hw88 (fun w1 => ?hy88) ?hn88; (case hw88 => rfl); (case hy88 => (go_simp; (try with_reducible rfl))); (try simp only [Act.put, zF, zG, zH]))
          (refine TG.v0 (v := ?v89) (by simp only [zA, zB, zC]; rfl) rfl ?hw89 (fun w1 => ?hy89) ?hn89; (case hw89 => rfl); (case hy89 => (go_simp; (try with_reducible rfl))); (try simp only [Act.put, zF, zG, zH]))
          (refine TG.load (v := ?v90) (p := ?p90) (by simp only [zA, zB, zC]; rfl) rfl ?hw90 rfl ?hx90 (fun wq hSq => ?hy90) ?hn90; (case hw90 => rfl); (case hx90 => (simp only [Act.eval, zD, zA, zB, zC, zE]; (try rfl))); (case hy90 => (have kp1q := hSq.at kp1 (by intro hT; first | exact hT | exact absurd hT (by assumption) | omega | (simp only at hT; omega)); have kp2q := hSq.at kp2 (by intro hT; first | exact hT | exact absurd hT (by assumption) | omega | (simp only at hT; omega)); have kgq := hSq.at kg (by intro hT; first | exact hT | exact absurd hT (by assumption) | omega | (simp only at hT; omega)); have kp7q := hSq.at kp7 (by intro hT; first | exact hT | exact absurd hT (by assumption) | omega | (simp only at hT; omega)); go_simp; (try with_reducible rfl))); (try simp only [Act.put, zF, zG, zH]))
          (refine TG.v0 (v := ?v91) (by simp only [zA, zB, zC]; rfl) rfl ?hw91 (fun w1 => ?hy91) ?hn91; (case hw91 => rfl); (case hy91 => (go_simp; (try with_reducible rfl))); (try simp only [Act.put, zF, zG, zH]))
          (refine TG.load (v := ?v92) (p := ?p92) (by simp only [zA, zB, zC]; rfl) rfl ?hw92 rfl ?hx92 (fun wq hSq => ?hy92) ?hn92; (case hw92 => rfl); (case hx92 => (simp only [Act.eval, zD, zA, zB, zC, zE]; (try rfl))); (case hy92 => (have kp1q := hSq.at kp1 (by intro hT; first | exact hT | exact absurd hT (by assumption) | omega | (simp only at hT; omega)); have kp2q := hSq.at kp2 (by intro hT; first | exact hT | exact absurd hT (by assumption) | omega | (simp only at hT; omega)); have kgq := hSq.at kg (by intro hT; first | exact hT | exact absurd hT (by assumption) | omega | (simp only at hT; omega)); have kp7q := hSq.at kp7 (by intro hT; first | exact hT | exact absurd hT (by assumption) | omega | (simp only at hT; omega)); go_simp; (try with_reducible rfl))); (try simp only [Act.put, zF, zG, zH]))
          (refine TG.callM (f := ?f93) (args := ?r93) (NewL uc 1 5 w.heap.size z.w.l) (goodN uc 1 5 w.heap.size z.w.l) gK (by simp only [zA, zB, zC]; rfl) rfl ?hw93 (fun w1 => ?hy93) (fun T wq kq ltq hSq ub => ?hsp93) ?hn93; (case hw93 => rfl); (case hy93 => (go_simp; (first | with_reducible rfl | (constructor <;> with_reducible rfl)))); (case hsp93 => (have kp1q := hSq.at kp1 (by intro hT; first | exact hT | exact absurd hT (by assumption) | omega | (simp only at hT; omega)); have kp2q := hSq.at kp2 (by intro hT; first | exact hT | exact absurd hT (by assumption) | omega | (simp only at hT; omega)); have kgq := hSq.at kg (by intro hT; first | exact hT | exact absurd hT (by assumption) | omega | (simp only at hT; omega)); have kp7q := hSq.at kp7 (by intro hT; first | exact hT | exact absurd hT (by assumption) | omega | (simp only at hT; omega)); exact (ownB_c (c := z.w.c) (HZ.out.2.2.2.2.2.1.1.mod0 ((hm0.then0 mA).then0 hSq)) HZ.out.2.2.2.2.2.2.1.1).mono (fun e w' h => by obtain ⟨v, h1, h2, h3⟩ := h; exact ⟨v, h1, h3, newL h2 ((hm0.then0 mA).then0 hSq).size⟩))); rintro v93 ⟨wI, TI, hI⟩; replace gK := gK.and ((goodN uc 1 5 w.heap.size z.w.l) v93); skip; (try clear hI TI wI); (try simp only [Act.put, zF, zG, zH]))
          (refine TG.v0 (v := ?v94) (by simp only [zA, zB, zC]; rfl) rfl ?hw94 (fun w1 => ?hy94) ?hn94; (case hw94 => rfl); (case hy94 => (go_simp; (try with_reducible rfl))); (try simp only [Act.put, zF, zG, zH]))
          (refine TG.load (v := ?v95) (p := ?p95) (by simp only [zA, zB, zC]; rfl) rfl ?hw95 rfl ?hx95 (fun wq hSq => ?hy95) ?hn95; (case hw95 => rfl); (case hx95 => (simp only [Act.eval, zD, zA, zB, zC, zE]; (try rfl))); (case hy95 => (have kp1q := hSq.at kp1 (by intro hT; first | exact hT | exact absurd hT (by assumption) | omega | (simp only at hT; omega)); have kp2q := hSq.at kp2 (by intro hT; first | exact hT | exact absurd hT (by assumption) | omega | (simp only at hT; omega)); have kgq := hSq.at kg (by intro hT; first | exact hT | exact absurd hT (by assumption) | omega | (simp only at hT; omega)); have kp7q := hSq.at kp7 (by intro hT; first | exact hT | exact absurd hT (by assumption) | omega | (simp only at hT; omega)); go_simp; (try with_reducible rfl))); (try simp only [Act.put, zF, zG, zH]))
          (refine TG.callM (f := ?f96) (args := ?r96) (NewL uc 1 5 w.heap.size z.r.l) (goodN uc 1 5 w.heap.size z.r.l) gK (by simp only [zA, zB, zC]; rfl) rfl ?hw96 (fun w1 => ?hy96) (fun T wq kq ltq hSq ub => ?hsp96) ?hn96; (case hw96 => rfl); (case hy96 => (go_simp; (first | with_reducible rfl | (constructor <;> with_reducible rfl)))); (case hsp96 => (have kp1q := hSq.at kp1 (by intro hT; first | exact hT | exact absurd hT (by assumption) | omega | (simp only at hT; omega)); have kp2q := hSq.at kp2 (by intro hT; first | exact hT | exact absurd hT (by assumption) | omega | (simp only at hT; omega)); have kgq := hSq.at kg (by intro hT; first | exact hT | exact absurd hT (by assumption) | omega | (simp only at hT; omega)); have kp7q := hSq.at kp7 (by intro hT; first | exact hT | exact absurd hT (by assumption) | omega | (simp only at hT; omega)); exact (ownB_c (c := z.r.c) (HZ.out.2.2.2.2.2.1.2.mod0 ((hm0.then0 mA).then0 hSq)) HZ.out.2.2.2.2.2.2.1.2).mono (fun e w' h => by obtain ⟨v, h1, h2, h3⟩ := h; exact ⟨v, h1, h3, newL h2 ((hm0.then0 mA).then0 hSq).size⟩))); rintro v96 ⟨wI, TI, hI⟩; replace gK := gK.and ((goodN uc 1 5 w.heap.size z.r.l) v96); skip; (try clear hI TI wI); (try simp only [Act.put, zF, zG, zH]))
          (refine TG.v0 (v := ?v97) (by simp only [zA, zB, zC]; rfl) rfl ?hw97 (fun w1 => ?hy97) ?hn97; (case hw97 => rfl); (case hy97 => (go_simp; (try with_reducible rfl))); (try simp only [Act.put, zF, zG, zH]))
          (refine TG.v0 (v := ?v98) (by simp only [zA, zB, zC]; rfl) rfl ?hw98 (fun w1 => ?hy98) ?hn98; (case hw98 => rfl); (case hy98 => (go_simp; (try with_reducible rfl))); (try simp only [Act.put, zF, zG, zH]))
          refine TG.nil (fun w7 ⟨TR, hr⟩ => ?_)
          have kp1 := hr.mod.at kp1 (by intro hT; first | exact hT | exact absurd hT (by assumption) | omega | (simp only at hT; omega))
          have kp2 := hr.mod.at kp2 (by intro hT; first | exact hT | exact absurd hT (by assumption) | omega | (simp only at hT; omega))
          have kg := hr.mod.at kg (by intro hT; first | exact hT | exact absurd hT (by assumption) | omega | (simp only at hT; omega))
          have kp7 := hr.mod.at kp7 (by intro hT; first | exact hT | exact absurd hT (by assumption) | omega | (simp only at hT; omega))
          clear gK
          obtain ⟨⟨_, hNa, hTa⟩, hNb, hTb⟩ := hr.k
          have hgT : ∀ g', TR g' → g' ≠ g := fun g' hg e => (hr.old g (lt_size kgA) (e ▸ hg)).elim
          have mB := mA.then0 hr.mod
          have kgB := kg
          obtain ⟨aa, ea, _⟩ := hNa.at
          obtain ⟨ab, eb, _⟩ := hNb.at
          subst ea
          subst eb
          have HN := Lib.hid (And.intro hNa (And.intro hTa (And.intro hNb (And.intro hTb hgT))))
          clear hr hNa hTa hNb hTb hgT
          refine TE.step (by simp only [zA, zB, zC]; rfl) rfl ?_
          (refine eff_store (X := ?X99) (Y := ?Y99) (w' := ?w99) (by simp only [zA, zB, zC]; rfl) ?hw99 rfl ?hx99 ?hz99 ?hy99 ?hn99; (case hw99 => rfl); (case hx99 => (simp only [Act.eval, zD, zA, zB, zC, zE]; (try rfl))); (case hz99 => (simp only [Act.eval, zD, zA, zB, zC, zE]; (try rfl))); (case hy99 => (go_simp; (try with_reducible rfl))))
          (first | refine TE.mid_set kg (fun wn kg mS => ?_) | refine TE.mid_setCell kg (fun wn kg mS => ?_))
          replace kp1 := mS.at_ne kp1 (Ne.symm hgp1)
          replace kp2 := mS.at_ne kp2 (Ne.symm hgp2)
          have mp := mS
          clear mS
          (refine TE.val0 (v := ?v100) (by simp only [zA, zB, zC]; rfl) ?hw100 (fun w1 => ?hy100) ?hn100; (case hw100 => rfl); (case hy100 => (go_simp; (try with_reducible rfl))); (try simp only [Act.put, zF, zG, zH]))
          (refine TE.val0 (v := ?v101) (by simp only [zA, zB, zC]; rfl) ?hw101 (fun w1 => ?hy101) ?hn101; (case hw101 => rfl); (case hy101 => (go_simp; (try with_reducible rfl))); (try simp only [Act.put, zF, zG, zH]))
          refine TE.step (by simp only [zA, zB, zC]; rfl) rfl ?_
          (refine eff_store (X := ?X102) (Y := ?Y102) (w' := ?w102) (by simp only [zA, zB, zC]; rfl) ?hw102 rfl ?hx102 ?hz102 ?hy102 ?hn102; (case hw102 => rfl); (case hx102 => (simp only [Act.eval, zD, zA, zB, zC, zE]; (try rfl))); (case hz102 => (simp only [Act.eval, zD, zA, zB, zC, zE]; (try rfl))); (case hy102 => (go_simp; (try with_reducible rfl))))
          (first | refine TE.nil_set kg (fun wn kg mS => ?_) | refine TE.nil_setCell kg (fun wn kg mS => ?_))
          replace kp1 := mS.at_ne kp1 (Ne.symm hgp1)
          replace kp2 := mS.at_ne kp2 (Ne.symm hgp2)
          have mq := mp.trans mS
          clear mS
          have HPN : Hid (LpL w.heap.size wn (.slice a31 l31 l31) x.lks.l (L.set i ⟨z.t, ⟨aa, z.w.l, z.w.l.length⟩, ⟨ab, z.r.l, z.r.l.length⟩⟩) (i + 1)) := Lib.hid (by
            obtain ⟨hz, hLz, hLlen, hgb, hrow, _, _, hv⟩ := HZ.out
            obtain ⟨hNa, hTa, hNb, hTb, hgT⟩ := HN.out
            have hiL : i < L.length := by rw [hLlen]; exact hlt
            refine ⟨by rw [List.length_set]; exact HP.out.len, .inr ⟨g, _, by rw [List.length_set, hLlen, hv], hgb, kg, ?_⟩, fun j y z' hj hy hz' => ?_, fun j hj => ?_⟩
            · exact rows_set2 lor_size hrow hLz (by omega) (by omega) (lor_set z ⟨aa, z.w.l, z.w.l.length⟩ ⟨ab, z.r.l, z.r.l.length⟩)
            · by_cases hji : j = i
              · subst hji
                rw [List.getElem?_set_self hiL] at hy
                rw [hz] at hz'
                cases hy
                cases hz'
                exact ⟨rfl, hNa.mod mq (fun g' hg' => hgT g' (hTa g' hg')), hNb.mod mq (fun g' hg' => hgT g' (hTb g' hg'))⟩
              · rw [List.getElem?_set_ne (fun e => hji e.symm)] at hy
                refine ((HP.out.done j y z' (by omega) hy hz').mod mB (fun _ _ _ h => h)).mod mq (fun g' c k e => ?_)
                subst e
                rw [kgB] at k
                injection k with k
                injection k with _ k
                exact absurd k (by decide)
            · rw [List.getElem?_set_ne (by omega)]
              exact HP.out.rest j (by omega))
          have hmN : Mod (fun b => (Value.slice a31 l31 l31).ownBlock = some b) wb wn := (hmL.then0 mB).then mq (fun b _ e => by
            subst e
            rw [hv]
            rfl)
          have hm0N : Mod (fun _ => False) w wn := (hm0.then0 mB).thenB mq (.inl HZ.out.2.2.2.1)
          have HQ := Lib.hid (And.intro hv (And.intro kp1 (And.intro kp2 (And.intro hmN hm0N))))
          clear hv kp1 kp2 hmN hm0N
          have hms : l31 - (i + 1) < l31 - i := by omega
          have HIi := Lib.hid (show (i : Int) + 1 = ((i + 1 : Nat) : Int) by omega)
          have HMs := Lib.hid hms
          clear hms
          go_wp2_with fail
          go_roundw
          case rel => exact ⟨i + 1, _, hlt, by go_num, HPN, HQ.out.2.2.2.1, HQ.out.2.2.2.2, HQ.out.2.1, HQ.out.2.2.1⟩
          case measure => simp [intOf]; omega
        · have hie : i = l31 := by omega
          have hpf : ∀ j : Nat, i = j → Hid (LpL w.heap.size wr (.slice a31 l31 l31) x.lks.l L j) := fun j e => by
            subst e
            exact HP
          have HPF := hpf _ hie
          clear hpf
          clear HP
          have HKP2 : Hid (∃ C, wr.heap[p2]? = some (.cells C 48 (0, 0))) := Lib.hid ⟨_, kp2⟩
          have HML := Lib.hid hmL
          go_upto_region 14 with fail
          have Lkp1 := lt_size kp1
          have Lkp2 := lt_size kp2
          refine wp_pass0 (C := fun _ _ _ => False) (κ := fun i => [1, 5].getD i 0) [0, 1] (by kernel_rfl) (by kernel_rfl) (fun _ _ d _ _ h => by cases d <;> first | exact h | exact absurd h (hP _ _ _)) ?_
          (refine TD.load (v := ?v103) (p := ?p103) (Mod.refl _ _) (by simp only [zA, zB, zC]; rfl) rfl ?hw103 rfl ?hx103 (fun wq hSq => ?hy103) ?hn103; (case hw103 => rfl); (case hx103 => (simp only [Act.eval, zD, zA, zB, zC, zE]; (try rfl))); (case hy103 => (have kp1q := hSq.at kp1 (fun h => h); have kp2q := hSq.at kp2 (fun h => h); go_simp; (try with_reducible rfl))); (try simp only [Act.put, zF, zG, zH]))
          refine TD.eff (by simp only [zA, zB, zC]; rfl) rfl (fun wE hr => ?_)
          have kp1 := hr.mod.at0 kp1
          have kp2 := hr.mod.at0 kp2
          have mE := hr.mod
          (refine eff_store (X := ?X104) (Y := ?Y104) (w' := ?w104) (by simp only [zA, zB, zC]; rfl) ?hw104 rfl ?hx104 ?hz104 ?hy104 ?hn104; (case hw104 => rfl); (case hx104 => (simp only [Act.eval, zD, zA, zB, zC, zE]; (try rfl))); (case hz104 => (simp only [Act.eval, zD, zA, zB, zC, zE]; (try rfl))); (case hy104 => (go_simp; (try with_reducible rfl))))
          (first | refine TE.nil_set kp2 (fun w9 kp2 mS => ?_) | refine TE.nil_setCell kp2 (fun w9 kp2 mS => ?_))
          (try simp only [Array.setIfInBounds, zF, zG, zH] at kp2)
          have kp1 := mS.at_ne kp1 (by omega)
          have m9 := (hm0.then0 mE).thenB mS (.inl gp2)
          clear hr
          go_wp2_with fail
          have mp2 : Mod (fun i => i = p2) wr w9 := (mE.mono (fun _ _ h => h.elim)).trans mS
          have HK : Hid (∃ C, wr.heap[p2]? = some (.cells C 48 (0, 0))) := HKP2
          have HEND : Hid (NewS uc 1 5 w.heap.size w9 (.slice a5 lb lb) x.b.l ∧ NewS sgc 64 77 w.heap.size w9 (.slice a16 l16 l16) x.sg.l ∧ NewS kc 32 69 w.heap.size w9 (.slice a21 l21 l21) x.ks.l ∧ NewS inr 3 71 w.heap.size w9 (.slice a26 l26 l26) LI ∧
              (∀ y ∈ LI, NewS uc 1 5 w.heap.size w9 (.slice y.a.a y.a.l.length y.a.c) y.a.l ∧ NewS uc 1 5 w.heap.size w9 (.slice y.d.a y.d.l.length y.d.c) y.d.l) ∧ NewS lor 34 73 w.heap.size w9 (.slice a31 l31 l31) L ∧
              (∀ y ∈ L, NewS uc 1 5 w.heap.size w9 (.slice y.w.a y.w.l.length y.w.c) y.w.l ∧ NewS uc 1 5 w.heap.size w9 (.slice y.r.a y.r.l.length y.r.c) y.r.l) ∧ NewS rcr 34 75 w.heap.size w9 (.slice a8 lr lr) x.ro.l) := Lib.hid (by
            obtain ⟨f1, f2, f3, f4, _⟩ := HG.out
            obtain ⟨C, kC⟩ := HK.out
            have hJ := HJ0.out.rows
            have up : ∀ {α : Type} {f : α → Array Value} {n : Nat} {E : TypeId} {v : Value} {l : List α}, E ≠ 73 → E ≠ 48 → NewS f n E w.heap.size wb v l → NewS f n E w.heap.size w9 v l := fun {α f n E v l} h1 h2 h => (h.other hJ h1 HML.out).offT kC h2 mp2
            have up2 : ∀ {α : Type} {f : α → Array Value} {n : Nat} {E : TypeId} {v : Value} {l : List α}, E ≠ 48 → NewS f n E w.heap.size wr v l → NewS f n E w.heap.size w9 v l := fun {α f n E v l} h2 h => h.offT kC h2 mp2
            have g26 : ∀ y ∈ LI, EI w.heap.size wb y y := fun y hy => by
              obtain ⟨j, hj⟩ := List.mem_iff_getElem?.1 hy
              have hjl := (List.getElem?_eq_some_iff.1 hj).1
              have hj2 := List.getElem?_eq_getElem (l := x.ins.l) (i := j) (by rw [← HPI.out.len]; exact hjl)
              obtain ⟨_, q1, q2⟩ := HPI.out.done j y _ (by rw [← hl26, ← HPI.out.len]; exact hjl) hj hj2
              exact ⟨rfl, q1, q2⟩
            have g31 : ∀ y ∈ L, EL w.heap.size wr y y := fun y hy => by
              obtain ⟨j, hj⟩ := List.mem_iff_getElem?.1 hy
              have hjl := (List.getElem?_eq_some_iff.1 hj).1
              have hj2 := List.getElem?_eq_getElem (l := x.lks.l) (i := j) (by rw [← HPF.out.len]; exact hjl)
              obtain ⟨_, q1, q2⟩ := HPF.out.done j y _ (by rw [← hl31, ← HPF.out.len]; exact hjl) hj hj2
              exact ⟨rfl, q1, q2⟩
            exact ⟨up (by decide) (by decide) f1, up (by decide) (by decide) f3, up (by decide) (by decide) f4, up (by decide) (by decide) HPI.out.rows, fun y hy => ⟨up (by decide) (by decide) (g26 y hy).2.1, up (by decide) (by decide) (g26 y hy).2.2⟩, up2 (by decide) HPF.out.rows,
              fun y hy => ⟨up2 (by decide) (g31 y hy).2.1, up2 (by decide) (g31 y hy).2.2⟩, up (by decide) (by decide) f2⟩)
          obtain ⟨y, hy⟩ : ∃ y : RdR, y = ⟨⟨a5, x.b.l, lb⟩, ⟨a16, x.sg.l, l16⟩, x.v0, x.h0, x.h1, x.h2, ⟨a21, x.ks.l, l21⟩, x.rc, ⟨a26, LI, l26⟩, ⟨a31, L, l31⟩, ⟨a8, x.ro.l, lr⟩, x.un, x.pr, x.bad, x.fee, x.cost, x.prio⟩ := ⟨_, rfl⟩
          have hrd : rdr y2 = rdr y := by
            rw [hy, HY2.out, HY1.out]
            unfold rdr rpre rpost
            simp only [HPI.out.len, HPF.out.len]
          rw [hrd] at kp2
          refine bodyPost_ret (results_cell1 (v := .agg (rdr y)) rfl rfl (by rw [ldRdy]; simp [kp2, rdr_all, rdr_size])) rfl ⟨y, rfl, ?_, ?_, m9⟩
          · rw [hy]
            unfold RdR.con
            simp only
            rw [map_eq_of HPI.out.len (fun j a b ha hb => (HPI.out.done j a b (by rw [← hl26]; exact (List.getElem?_eq_some_iff.1 hb).1) ha hb).1), map_eq_of HPF.out.len (fun j a b ha hb => (HPF.out.done j a b (by rw [← hl31]; exact (List.getElem?_eq_some_iff.1 hb).1) ha hb).1)]
          · have HE := HEND.out
            obtain ⟨e1, e2, e3, e4, e5, e6, e7, e8⟩ := HE
            rw [hy]
            exact ⟨e1.norm, e2.norm, e3.norm, e4.norm, fun y' hy' => ⟨(e5 y' hy').1.norm, (e5 y' hy').2.norm⟩, e6.norm, fun y' hy' => ⟨(e7 y' hy').1.norm, (e7 y' hy').2.norm⟩, e8.norm⟩
theorem fresh_c {w : World} {x : RdR} (hx : RdOk w x) (hs : RdSm x.con) : Calls Tryd.prog 27 #[.agg (rdr x)] w fun e w' => ∃ y : RdR, e = .returned (.agg (rdr y)) ∧ y.con = x.con ∧ RdOk w' y ∧ RdIn (fun g => w.heap.size ≤ g ∧ g < w'.heap.size) y ∧ Mod (fun _ => False) w w' := by
  exact (fresh_n hx hs).mono fun e w' h => by
    obtain ⟨y, h1, h2, h3, h4⟩ := h
    exact ⟨y, h1, h2, h3.ok, h3.inn, h4⟩
end Go.Proofs.YtdeghpmlhcaedaaDoor
