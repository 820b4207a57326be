/- Graphs: how a graph lies in memory. -/
import Derived.Test.YtffcnnogkpdinaaGen2
import Derived.Test.YtffcnnogkpdinaaTg
import Derived.Test.YtffcnnogkpdinaaGp
import Derived.Test.YtffcnnogkpdinaaIter
import Derived.Test.YtffcnnogkpdinaaProg
import Derived.BigQuiet
namespace Go.Proofs.Ytffcnnogkpdinaa
open Go.RowKit
open Go.ChangeMaps (setBlock)
set_option linter.unusedSimpArgs false
set_option linter.unusedVariables false
def pc (b : Nat) : Array Value := #[.pointer (some ⟨b, 0, none⟩)]
theorem ptrT : ElT Try.prog 64 62 pc 1 8 where
  u := Try.underlying64
  info := by
    obtain ⟨i0, hi, hz0, hz1, hz2⟩ := info_parts (show (Try.prog.info? 62).map (fun i => (i.zero, i.size, i.bytes)) = some (some (.pointer none), 1, 8) by kernel_rfl)
    exact ⟨i0, _, hi, hz0, hz1, hz2, rfl⟩
  pos := by omega
  size x := rfl
  one x u hu := by
    simp [pc] at hu
    subst hu
    rfl
theorem cellsOf_pc (l : List Nat) : cellsOf pc l = l.map fun b => .pointer (some ⟨b, 0, none⟩) := by
  unfold cellsOf pc
  induction l with
  | nil => rfl
  | cons b l ih => simpa using ih
abbrev ptrV (b : Nat) : Value := .pointer (some ⟨b, 0, none⟩)
/-- The cells of a slice of pointers. -/
theorem own_row {w : World} {base : Nat} {v : Value} {L : List Nat} (h : SlOwn pc 1 62 w base v L) (hL : L ≠ []) :
    ∃ g cap cur, v = .slice (some ⟨g, 0, none⟩) L.length cap ∧ base ≤ g ∧ w.heap[g]? = some (.cells cur 62 (0, 0)) ∧ L.length ≤ cap ∧ cap = cur.size ∧ (∀ (i b : Nat), L[i]? = some b → cur[i]? = some (ptrV b)) ∧
      ∀ (w' : World) (cur' : Array Value) (L' : List Nat), w'.heap[g]? = some (.cells cur' 62 (0, 0)) → cur'.size = cur.size → L'.length = L.length → (∀ (i b : Nat), L'[i]? = some b → cur'[i]? = some (ptrV b)) → SlOwn pc 1 62 w' base v L' := by
  obtain ⟨h0, h⟩ := h
  rcases h with ⟨_, hn⟩ | ⟨g, cap, cur, rfl, hb, hg, hnc, hcm, hcs, htake⟩
  · exact absurd (List.eq_nil_of_length_eq_zero hn) hL
  · rw [Nat.mul_one] at hcs htake
    refine ⟨g, cap, cur, rfl, hb, hg, hnc, hcs.symm, fun i b hi => ?_, fun w' cur' L' hg' hsz hl hc => ⟨?_, .inr ⟨g, cap, cur', by rw [hl], hb, hg', by omega, hcm, by omega, ?_⟩⟩⟩
    · rw [cellsOf_pc] at htake
      have h1 := congrArg (fun l => l[i]?) htake
      have hlt := (List.getElem?_eq_some_iff.1 hi).1
      simp only [List.getElem?_take, List.getElem?_map, hi, Option.map_some, if_pos hlt] at h1
      simpa using h1
    · rw [cellsOf_pc]; simp
    · rw [cellsOf_pc, Nat.mul_one]
      apply List.ext_getElem?
      intro i
      rw [List.getElem?_take, List.getElem?_map]
      by_cases hi : i < L'.length
      · rw [if_pos hi, List.getElem?_eq_getElem hi]
        have := hc i _ (List.getElem?_eq_getElem hi)
        simpa using this
      · rw [if_neg hi, List.getElem?_eq_none (by omega)]
        rfl
theorem own_block {w : World} {v : Value} {L : List Nat} {base : Nat} (h : SlOwn pc 1 62 w base v L) {g : Nat} (hg : v.ownBlock = some g) : ∃ cur, w.heap[g]? = some (.cells cur 62 (0, 0)) := by
  rcases h.2 with ⟨rfl, _⟩ | ⟨g', cap, cur, rfl, _, hg', _⟩
  · cases hg
  · cases hg
    exact ⟨cur, hg'⟩
theorem obj_ty {c c' : Array Value} {T T' : TypeId} (h : T ≠ T') : Obj.cells c T (0, 0) ≠ .cells c' T' (0, 0) := by
  intro e
  cases e
  exact h rfl
def idv (i : Int64) : Value := .int .i64 i.toInt
theorem idT : KeyT Try.prog 3 idv where
  law := Maps.int_keyed Try.underlying3
  lit k := ⟨.int .i64 k.toInt, Maps.keyOf_int_mk Try.underlying3 (by
    have h1 := k.toInt_lt
    have h2 := k.le_toInt
    simp [Lit.wf, IntKind.min, IntKind.max, IntKind.bits, IntKind.signed]
    omega)⟩
  inj a b h := by
    simp only [idv, Value.int.injEq, true_and] at h
    exact Int64.toInt_inj.1 h
/-- How a key is used, in a cell. -/
def bv (b : Bool) : Value := .int .i64 (if b then 1 else 0)
/-- A node's cells. -/
structure Nr where
  id : Int64
  ch : Int64
  pt : Nat
  wt : Nat
  nv : Value
  nx : List Nat
  kb : Nat
  ks : List (Key × Bool)
abbrev nrc (x : Nr) : Array Value := #[.int .i64 x.id.toInt, .int .i64 x.ch.toInt, .int .i64 (x.pt : Int), .int .i64 (x.wt : Int), x.nv, .map (some x.kb)]
abbrev Tag := Nat → Option (Nat × Nat)
structure NdAt (tag : Tag) (w : World) (a : Nat) (x : Nr) : Prop where
  c : w.heap[a]? = some (.cells (nrc x) 66 (0, 0))
  o : SlOwn pc 1 62 w 0 x.nv x.nx
  k : ∃ es c, w.heap[x.kb]? = some (.map es c) ∧ MapIs kv bv es c x.ks
  ta : tag a = some (a, 0)
  tk : tag x.kb = some (a, 1)
  tn : ∀ g, x.nv.ownBlock = some g → tag g = some (a, 2)
/-- A spot's cells. -/
structure Sr where
  wr : Option Nat
  rv : Value
  rs : List Nat
abbrev opV (o : Option Nat) : Value := .pointer (o.map fun b => ⟨b, 0, none⟩)
abbrev src (x : Sr) : Array Value := #[opV x.wr, x.rv]
structure SpAt (tag : Tag) (w : World) (a : Nat) (x : Sr) : Prop where
  c : w.heap[a]? = some (.cells (src x) 69 (0, 0))
  o : SlOwn pc 1 62 w 0 x.rv x.rs
  ta : tag a = some (a, 3)
  tr : ∀ g, x.rv.ownBlock = some g → tag g = some (a, 4)
/-- Which block serves what, and what all of them hold. -/
structure GMem (tag : Tag) (w : World) (g nb sb : Nat) (pu : Nat) (A : List Nat) (N : List (Int64 × Nat)) (S : List (Key × Nat)) (nd : Nat → Nr) (sp : Nat → Sr) : Prop where
  c : w.heap[g]? = some (.cells #[.map (some nb), .map (some sb), .int .i64 (pu : Int)] 55 (0, 0))
  kn : ∃ es c, w.heap[nb]? = some (.map es c) ∧ MapIs idv ptrV es c N
  ks : ∃ es c, w.heap[sb]? = some (.map es c) ∧ MapIs kv ptrV es c S
  nodes : ∀ a ∈ A, NdAt tag w a (nd a)
  spots : ∀ p ∈ S, SpAt tag w p.2 (sp p.2)
  tg : tag g = some (g, 5)
  tnb : tag nb = some (g, 6)
  tsb : tag sb = some (g, 7)
section
variable {tag tag' : Tag} {w w' : World} {g nb sb pu : Nat} {A : List Nat} {N : List (Int64 × Nat)} {S : List (Key × Nat)} {nd : Nat → Nr} {sp : Nat → Sr}
/-- A step that does not touch it. -/
theorem NdAt.mod {a : Nat} {x : Nr} {M : Nat → Prop} (h : NdAt tag w a x) (hm : Mod M w w') (hM : ∀ i r, tag i = some (a, r) → r ≤ 2 → ¬ M i) (ht : ∀ i, i < w.heap.size → tag' i = tag i) : NdAt tag' w' a x := by
  obtain ⟨es, c, hk, M'⟩ := h.k
  refine ⟨hm.at h.c (hM _ 0 h.ta (by omega)), h.o.mod hm (fun i hi => hM _ 2 (h.tn i hi) (by omega)), ⟨es, c, hm.at hk (hM _ 1 h.tk (by omega)), M'⟩, (ht _ (lt_size h.c)).trans h.ta, (ht _ (lt_size hk)).trans h.tk, fun i hi => ?_⟩
  exact (ht _ (h.o.lt _ hi).2).trans (h.tn i hi)
theorem SpAt.mod {a : Nat} {x : Sr} {M : Nat → Prop} (h : SpAt tag w a x) (hm : Mod M w w') (hM : ∀ i r, tag i = some (a, r) → 3 ≤ r → r ≤ 4 → ¬ M i) (ht : ∀ i, i < w.heap.size → tag' i = tag i) : SpAt tag' w' a x := by
  refine ⟨hm.at h.c (hM _ 3 h.ta (by omega) (by omega)), h.o.mod hm (fun i hi => hM _ 4 (h.tr i hi) (by omega) (by omega)), (ht _ (lt_size h.c)).trans h.ta, fun i hi => ?_⟩
  exact (ht _ (h.o.lt _ hi).2).trans (h.tr i hi)
theorem GMem.mod {M : Nat → Prop} (h : GMem tag w g nb sb pu A N S nd sp) (hm : Mod M w w') (hM : ∀ i, tag i ≠ none → ¬ M i) : GMem tag w' g nb sb pu A N S nd sp := by
  obtain ⟨es, c, hk, M1⟩ := h.kn
  obtain ⟨es2, c2, hk2, M2⟩ := h.ks
  have q : ∀ {i p}, tag i = some p → ¬ M i := fun {i p} e => hM i (by simp [e])
  exact ⟨hm.at h.c (q h.tg), ⟨es, c, hm.at hk (q h.tnb), M1⟩, ⟨es2, c2, hm.at hk2 (q h.tsb), M2⟩, fun a ha => (h.nodes a ha).mod hm (fun i r e _ => q e) (fun _ _ => rfl), fun p hp => (h.spots p hp).mod hm (fun i r e _ _ => q e) (fun _ _ => rfl), h.tg, h.tnb, h.tsb⟩
def upd {β : Type} (f : Nat → β) (a : Nat) (x : β) : Nat → β := fun i => if i = a then x else f i
@[simp] theorem upd_same {β : Type} (f : Nat → β) (a : Nat) (x : β) : upd f a x a = x := by simp [upd]
theorem upd_ne {β : Type} (f : Nat → β) {a b : Nat} (x : β) (h : b ≠ a) : upd f a x b = f b := by simp [upd, h]
/-- A step that touches what one address stands for alone (a node, or a spot, that is told anew). -/
theorem GMem.node {M : Nat → Prop} {a : Nat} {x : Nr} (h : GMem tag w g nb sb pu A N S nd sp) (hm : Mod M w w') (hM : ∀ i b r, tag i = some (b, r) → M i → b = a ∧ r ≤ 2) (ht : ∀ i, i < w.heap.size → tag' i = tag i) (hx : NdAt tag' w' a x) : GMem tag' w' g nb sb pu A N S (upd nd a x) sp := by
  obtain ⟨es, c, hk, M1⟩ := h.kn
  obtain ⟨es2, c2, hk2, M2⟩ := h.ks
  refine ⟨hm.at h.c (fun e => ?_), ⟨es, c, hm.at hk (fun e => ?_), M1⟩, ⟨es2, c2, hm.at hk2 (fun e => ?_), M2⟩, fun b hb => ?_, fun p hp => (h.spots p hp).mod hm (fun i r e h3 h4 hi => ?_) ht, (ht _ (lt_size h.c)).trans h.tg, (ht _ (lt_size hk)).trans h.tnb, (ht _ (lt_size hk2)).trans h.tsb⟩
  · have := (hM _ _ _ h.tg e).2; omega
  · have := (hM _ _ _ h.tnb e).2; omega
  · have := (hM _ _ _ h.tsb e).2; omega
  · by_cases e : b = a
    · subst e
      rw [upd_same]
      exact hx
    · rw [upd_ne _ _ e]
      exact (h.nodes b hb).mod hm (fun i r e' _ hi => e (hM _ _ _ e' hi).1) ht
  · have := (hM _ _ _ e hi).2; omega
theorem GMem.spot {M : Nat → Prop} {a : Nat} {x : Sr} (h : GMem tag w g nb sb pu A N S nd sp) (hm : Mod M w w') (hM : ∀ i b r, tag i = some (b, r) → M i → b = a ∧ 3 ≤ r ∧ r ≤ 4) (ht : ∀ i, i < w.heap.size → tag' i = tag i) (hx : SpAt tag' w' a x) : GMem tag' w' g nb sb pu A N S nd (upd sp a x) := by
  obtain ⟨es, c, hk, M1⟩ := h.kn
  obtain ⟨es2, c2, hk2, M2⟩ := h.ks
  refine ⟨hm.at h.c (fun e => ?_), ⟨es, c, hm.at hk (fun e => ?_), M1⟩, ⟨es2, c2, hm.at hk2 (fun e => ?_), M2⟩, fun b hb => (h.nodes b hb).mod hm (fun i r e h3 hi => ?_) ht, fun p hp => ?_, (ht _ (lt_size h.c)).trans h.tg, (ht _ (lt_size hk)).trans h.tnb, (ht _ (lt_size hk2)).trans h.tsb⟩
  · have := (hM _ _ _ h.tg e).2; omega
  · have := (hM _ _ _ h.tnb e).2; omega
  · have := (hM _ _ _ h.tsb e).2; omega
  · have := (hM _ _ _ e hi).2; omega
  · by_cases e : p.2 = a
    · rw [e, upd_same]
      exact hx
    · rw [upd_ne _ _ e]
      exact (h.spots p hp).mod hm (fun i r e' _ _ hi => e (hM _ _ _ e' hi).1) ht
/-- A node more is told of. -/
theorem GMem.more {a : Nat} (h : GMem tag w g nb sb pu A N S nd sp) (hx : NdAt tag w a (nd a)) : GMem tag w g nb sb pu (A ++ [a]) N S nd sp :=
  ⟨h.c, h.kn, h.ks, fun b hb => by
    rcases List.mem_append.1 hb with hb | hb
    · exact h.nodes b hb
    · obtain rfl := List.mem_singleton.1 hb
      exact hx, h.spots, h.tg, h.tnb, h.tsb⟩
theorem GMem.fewer {A' : List Nat} (h : GMem tag w g nb sb pu A N S nd sp) (hA : ∀ a ∈ A', a ∈ A) : GMem tag w g nb sb pu A' N S nd sp :=
  ⟨h.c, h.kn, h.ks, fun b hb => h.nodes b (hA b hb), h.spots, h.tg, h.tnb, h.tsb⟩
end
/-! ### The graph: who is in it -/
/-- What a spot ought to hold. -/
def SpIs (x : Sr) (s : Option An × List An) : Prop := x.wr = s.1.map An.a ∧ x.rs = s.2.map An.a
def NdIs (x : Nr) (n : An) : Prop := x.id = n.id ∧ x.ch = n.ch ∧ x.pt = n.pt ∧ x.ks = n.ks
structure GInv (pu : Nat) (L : List An) (N : List (Int64 × Nat)) (S : List (Key × Nat)) (nd : Nat → Nr) (sp : Nat → Sr) : Prop where
  N : N.Perm (L.map fun x => (x.id, x.a))
  ad : (L.map An.a).Nodup
  pts : (L.map An.pt).Pairwise (· < ·)
  ptu : ∀ x ∈ L, x.pt < pu
  pub : pu ≤ 900
  kl : ∀ x ∈ L, x.ks.length ≤ 1000
  nxl : ∀ b ∈ L, (nd b.a).nx.length ≤ pu * 1000000
  nds : ∀ x ∈ L, NdIs (nd x.a) x
  kn : ∀ x ∈ L, (x.ks.map Prod.fst).Nodup
  sn : (S.map Prod.snd).Nodup
  sps : ∀ k, (∀ s, lkp k S = some s → SpIs (sp s) (spotOf k L)) ∧ (lkp k S = none → spotOf k L = (none, []))
  wts : ∀ X x Y, L = X ++ x :: Y → (nd x.a).wt = (srcs X x.ks).length
  nxs : ∀ X x Y, L = X ++ x :: Y → ∀ b ∈ L, (nd b.a).nx.count x.a = (srcs X x.ks).count b
  nxm : ∀ b ∈ L, ∀ y ∈ (nd b.a).nx, ∃ x ∈ L, x.a = y
/-- What is told of one: its id, its chain, how it uses each key. -/
structure Cn where
  id : Int64
  ch : Int64
  how : Key → Option Bool
def An.cn (x : An) : Cn := ⟨x.id, x.ch, x.how⟩
/-- A graph at g, in blocks of T, of the nodes C, behind q puts. -/
def GAt (g q : Nat) (C : List Cn) (T : Nat → Prop) (w : World) : Prop := ∃ tag nb sb L N S nd sp, GMem tag w g nb sb q (L.map An.a) N S nd sp ∧ GInv q L N S nd sp ∧ C = L.map An.cn ∧ ∀ i, tag i ≠ none → T i
theorem GAt.good (g q : Nat) (C : List Cn) : Good (GAt g q C) where
  cl := by
    rintro T w w' ⟨tag, nb, sb, L, N, S, nd, sp, H, I, hC, hT⟩ hm
    exact ⟨tag, nb, sb, L, N, S, nd, sp, H.mod hm (fun i hi hn => hn (hT i hi)), I, hC, hT⟩
  gr := by
    rintro T T' w hT ⟨tag, nb, sb, L, N, S, nd, sp, H, I, hC, hO⟩
    exact ⟨tag, nb, sb, L, N, S, nd, sp, H, I, hC, fun i hi => hT i (hO i hi)⟩
end Go.Proofs.Ytffcnnogkpdinaa
