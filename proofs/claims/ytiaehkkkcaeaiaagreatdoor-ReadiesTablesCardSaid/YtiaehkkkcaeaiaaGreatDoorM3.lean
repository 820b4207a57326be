/- The lemmas of the proof, part M3: how the program and its data lie in memory, and what its functions do. -/
import Derived.Test.YtiaehkkkcaeaiaaGreatDoorM2
import Derived.Laws.Externs
import Derived.Laws.Bits64b
import Derived.Shelf.Bits.Mul64
import Derived.Test.YtiaehkkkcaeaiaaGreatDoorRows
import Derived.ProofKit
import Derived.LaidMore
import Derived.OpenShut
import Derived.Stop.Joined
import Derived.Stop.LaidErr
import Derived.Lib.LaidTab
import Derived.Laws.CopyRow
import Derived.Laws.MakeOwn
set_option linter.unusedSimpArgs false
set_option linter.unusedVariables false
set_option linter.unusedSectionVars false
namespace Go.Proofs.YtiaehkkkcaeaiaaGreatDoor
open Go.RowKit
open Go.ChangeMaps (setBlock)
attribute [local go_sem] cell_blk frozen_blk one_int one_bool one_ptr one_slice one_map Value.cells
attribute [local go_sem ↓] wlKey ldKey stKey wlMsg ldMsg stMsg wlRg ldRg stRg wlTc ldTc stTc ldSg stSg
attribute [local go_sem] kc_ext kc_one kc_one0 kc_size zKey_size one_slice mgx_size mgx_ext mgx_one mgx_one0 zMsg_size zMsg_all zMsg_all0
def inP (r : InR) : InP := ⟨r.p, r.a.l, r.d.l⟩
def loP (r : LoR) : LoP := ⟨r.t, r.w.l, r.r.l⟩
def msgP (x : RdR) : MsP := ⟨x.v0, x.h0, x.h1, x.h2, x.ks.l, x.rc, x.ins.l.map inP, x.lks.l.map loP⟩
def txP (x : RdR) : TxP := ⟨x.sg.l, msgP x⟩
def TxO (b : Nat) (w : World) (x : RdR) : Prop := NewS sgc 64 101 b w (.slice x.sg.a x.sg.l.length x.sg.c) x.sg.l ∧ NewS kc 32 82 b w (.slice x.ks.a x.ks.l.length x.ks.c) x.ks.l ∧
 NewS inr 3 125 b w (.slice x.ins.a x.ins.l.length x.ins.c) x.ins.l ∧ InsOk b w x.ins.l (x.ins.l.map inP) ∧ NewS lor 34 121 b w (.slice x.lks.a x.lks.l.length x.lks.c) x.lks.l ∧ LosOk b w x.lks.l (x.lks.l.map loP) ∧ ∀ g ∈ insB x.ins.l, ∀ h ∈ losB x.lks.l, g < h
theorem ins_map {b : Nat} {w : World} {L : List InR} {xs : List InP} (h : All2 (In1 b w) L xs) : xs = L.map inP := by
 induction h with
 | nil => rfl
 | @cons r x l m hx _ ih =>
  rw [List.map_cons, ← ih]
  obtain ⟨p, a, d⟩ := x
  obtain ⟨h1, h2, h3, _⟩ := hx
  simp only at h1 h2 h3
  rw [inP, h1, h2, h3]
theorem los_map {b : Nat} {w : World} {L : List LoR} {xs : List LoP} (h : All2 (Lo1 b w) L xs) : xs = L.map loP := by
 induction h with
 | nil => rfl
 | @cons r x l m hx _ ih =>
  rw [List.map_cons, ← ih]
  obtain ⟨p, a, d⟩ := x
  obtain ⟨h1, h2, h3, _⟩ := hx
  simp only at h1 h2 h3
  rw [loP, h1, h2, h3]
theorem VTx.toO {b : Nat} {w : World} {v : Value} {x : TxP} (h : VTx b w v x) : ∃ r : RdR, v = .agg (txr r) ∧ txP r = x ∧ TxO b w r := by
 obtain ⟨sa, m, rfl, h1, ka, ia, la, L, M, hm, h2, h3, h4, h5, h6, h7⟩ := h
 obtain ⟨sg, v0, q0, q1, q2, ks, rc, ins, lks⟩ := x
 simp only at h1 h2 h3 h4 h5 h6 h7 hm
 obtain rfl := ins_map h4.1
 obtain rfl := los_map h6.1
 refine ⟨⟨⟨none, [], 0⟩, ⟨sa, sg, sg.length⟩, v0, q0, q1, q2, ⟨ka, ks, ks.length⟩, rc, ⟨ia, L, L.length⟩, ⟨la, M, M.length⟩, ⟨none, [], 0⟩, 0, 0, 0, 0, 0, 0⟩, ?_, rfl, h1, h2, h3, h4, h5, h6, h7⟩
 have hm2 : mcx m = mgx v0 q0 q1 q2 ka ks.length ks.length rc ia L.length L.length la M.length M.length := by injection hm
 have e1 : (tcx sa sg.length sg.length m).toList = .slice sa sg.length sg.length :: (mcx m).toList := rfl
 congr 1
 apply Array.toList_inj.1
 rw [e1, hm2]
 rfl
theorem NewS.ty {α : Type} {f : α → Array Value} {n : Nat} {E : TypeId} {base : Nat} {w : World} {v : Value} {l : List α} (h : NewS f n E base w v l) {g : Nat} (hg : v.ownBlock = some g) : ∃ cur, w.heap[g]? = some (.cells cur E (0, 0)) := by
 rcases h with ⟨rfl, _⟩ | ⟨g', cur, rfl, _, hk, _⟩
 ·cases hg
 ·cases hg
  exact ⟨cur, hk⟩
def Apt (w : World) (S : Nat → Prop) (b : Nat) : Prop := ∀ g C E, b ≤ g → w.heap[g]? = some (.cells C E (0, 0)) → (E = 101 ∨ E = 82 ∨ E = 125 ∨ E = 121 ∨ E = 5) → ¬ S g
theorem Apt.below {w : World} {S : Nat → Prop} {b : Nat} (h : ∀ i, S i → i < b) : Apt w S b := fun g _ _ hb _ _ hs => by
 have := h g hs
 omega
theorem Apt.old {w : World} {S : Nat → Prop} {b : Nat} (h : ∀ i, S i → w.heap.size ≤ i) : Apt w S b := fun g _ _ _ hk _ hs => by
 have := h g hs
 have := lt_size hk
 omega
theorem TxO.mod {b : Nat} {w w' : World} {x : RdR} {S : Nat → Prop} (h : TxO b w x) (hm : Mod S w w') (hS : Apt w S b) : TxO b w' x := by
 obtain ⟨h1, h2, h3, h4, h5, h6, h7⟩ := h
 exact ⟨h1.mod hm (fun g hg => by obtain ⟨C, hk⟩ := h1.ty hg; exact hS g C _ (h1.lt g hg).1 hk (.inl rfl)),
  h2.mod hm (fun g hg => by obtain ⟨C, hk⟩ := h2.ty hg; exact hS g C _ (h2.lt g hg).1 hk (.inr (.inl rfl))),
  h3.mod hm (fun g hg => by obtain ⟨C, hk⟩ := h3.ty hg; exact hS g C _ (h3.lt g hg).1 hk (.inr (.inr (.inl rfl)))),
  h4.mod hm (fun g hb _ ⟨C, hk⟩ => hS g C _ hb hk (.inr (.inr (.inr (.inr rfl))))),
  h5.mod hm (fun g hg => by obtain ⟨C, hk⟩ := h5.ty hg; exact hS g C _ (h5.lt g hg).1 hk (.inr (.inr (.inr (.inl rfl))))),
  h6.mod hm (fun g hb _ ⟨C, hk⟩ => hS g C _ hb hk (.inr (.inr (.inr (.inr rfl))))), h7⟩
theorem TxO.mod0 {b : Nat} {w w' : World} {x : RdR} (h : TxO b w x) (hm : Mod (fun _ => False) w w') : TxO b w' x := h.mod hm (Apt.below (fun _ h => h.elim))
theorem TxO.base {b b' : Nat} {w : World} {x : RdR} (h : TxO b w x) (hb : b' ≤ b) : TxO b' w x := by
 obtain ⟨h1, h2, h3, h4, h5, h6, h7⟩ := h
 exact ⟨h1.base hb, h2.base hb, h3.base hb, h4.base hb, h5.base hb, h6.base hb, h7⟩
def blk (x : RdR) : List Nat := (Value.slice x.sg.a x.sg.l.length x.sg.c).ownBlock.toList ++ ((Value.slice x.ks.a x.ks.l.length x.ks.c).ownBlock.toList ++ (insB x.ins.l ++ losB x.lks.l))
theorem TxO.blk {b : Nat} {w : World} {x : RdR} (h : TxO b w x) : ∀ g ∈ blk x, b ≤ g ∧ g < w.heap.size := by
 obtain ⟨h1, h2, h3, h4, h5, h6, h7⟩ := h
 intro g hg
 simp only [Go.Proofs.YtiaehkkkcaeaiaaGreatDoor.blk, List.mem_append, Option.mem_toList] at hg
 rcases hg with hg | hg | hg | hg
 ·exact h1.lt g hg
 ·exact h2.lt g hg
 ·exact ⟨(h4.2.2 g hg).1, (h4.2.2 g hg).2.1⟩
 ·exact ⟨(h6.2.2 g hg).1, (h6.2.2 g hg).2.1⟩
end Go.Proofs.YtiaehkkkcaeaiaaGreatDoor
namespace Go.Proofs.YtiaehkkkcaeaiaaGreatDoor
open Go.RowKit
open Go.ChangeMaps (setBlock)
attribute [local go_sem] cell_blk frozen_blk one_int one_bool one_ptr one_slice one_map Value.cells
def PO {α : Type} (n : Nat) (P : α → Prop) (r : PR α) : Prop := ∀ x k, r = .ok (x, k) → k ≤ n ∧ P x
theorem PO.err {α : Type} {n : Nat} {P : α → Prop} {e : Nat} : PO n P (.error e : PR α) := fun _ _ h => by cases h
theorem PO.ok {α : Type} {n k : Nat} {P : α → Prop} {x : α} (hk : k ≤ n) (hx : P x) : PO n P (.ok (x, k) : PR α) := fun _ _ h => by
 cases h
 exact ⟨hk, hx⟩
theorem PO.bind {α β : Type} {n : Nat} {P : α → Prop} {R : β → Prop} {r : PR α} {f : α → Nat → PR β} (h : PO n P r) (hf : ∀ x k, k ≤ n → P x → PO n R (f x k)) : PO n R (pBind r f) := by
 cases hr : r with
 | error e => exact PO.err
 | ok y => exact hf y.1 y.2 (h _ _ hr).1 (h _ _ hr).2
theorem PO.byte {l : List UInt8} {k : Nat} : PO l.length (fun _ => True) (pByte l k) := by
 unfold pByte
 split
 ·rename_i c h
  have := (List.getElem?_eq_some_iff.1 h).1
  exact PO.ok (by omega) trivial
 ·exact PO.err
theorem PO.short {l : List UInt8} {k : Nat} (hk : k ≤ l.length) : PO l.length (fun n => n ≤ 65535) (pShort l k) := fun n k1 h => by
 have := pShort_fit h hk
 exact ⟨this.2.1, this.1⟩
theorem PO.bytes {l : List UInt8} {k n : Nat} : PO l.length (fun x => x.length ≤ n) (pBytes l k n) := by
 unfold pBytes
 split
 ·exact PO.ok (by assumption) (by rw [List.length_take]; omega)
 ·exact PO.err
theorem PO.list {l : List UInt8} {k : Nat} (hk : k ≤ l.length) : PO l.length (fun x => x.length ≤ 65535) (pList l k) := by
 unfold pList
 split
 ·rename_i n k1 h
  have h1 := (PO.short hk _ _ h).2
  intro x k2 h2
  have h3 := PO.bytes _ _ h2
  exact ⟨h3.1, Nat.le_trans h3.2 h1⟩
 ·exact PO.err
theorem PO.key {l : List UInt8} {k : Nat} : PO l.length (fun _ => True) (pKey l k) := by
 unfold pKey
 split
 ·exact PO.ok (by assumption) trivial
 ·exact PO.err
def InB (x : InP) : Prop := x.a.length ≤ 65535 ∧ x.d.length ≤ 65535
def LoB (x : LoP) : Prop := x.w.length ≤ 65535 ∧ x.r.length ≤ 65535
theorem PO.instr {l : List UInt8} {k : Nat} : PO l.length InB (pInstr l k) := by
 unfold pInstr
 split
 ·exact PO.err
 ·rename_i q k1 h1
  have b1 := (PO.byte _ _ h1).1
  split
  ·exact PO.err
  ·rename_i x k2 h2
   have b2 := PO.list b1 _ _ h2
   split
   ·exact PO.err
   ·rename_i y k3 h3
    have b3 := PO.list b2.1 _ _ h3
    exact PO.ok b3.1 ⟨b2.2, b3.2⟩
theorem PO.look {l : List UInt8} {k : Nat} : PO l.length LoB (pLook l k) := by
 unfold pLook
 split
 ·exact PO.err
 ·rename_i q k1 h1
  have b1 := (PO.key _ _ h1).1
  split
  ·exact PO.err
  ·rename_i x k2 h2
   have b2 := PO.list b1 _ _ h2
   split
   ·exact PO.err
   ·rename_i y k3 h3
    have b3 := PO.list b2.1 _ _ h3
    exact PO.ok b3.1 ⟨b2.2, b3.2⟩
theorem PO.rep {α : Type} {l : List UInt8} {P : α → Prop} {one : Nat → PR α} (h : ∀ k, k ≤ l.length → PO l.length P (one k)) : ∀ n k, k ≤ l.length → PO l.length (fun xs => xs.length = n ∧ ∀ x ∈ xs, P x) (pRep one n k)
 | 0, k, hk => PO.ok hk ⟨rfl, fun _ h => by cases h⟩
 | n + 1, k, hk => by
  rw [pRep]
  split
  ·exact PO.err
  ·rename_i x k1 h1
   have b1 := h k hk _ _ h1
   split
   ·exact PO.err
   ·rename_i xs k2 h2
    have b2 := PO.rep h n k1 b1.1 _ _ h2
    refine PO.ok b2.1 ⟨by rw [List.length_cons, b2.2.1], fun y hy => ?_⟩
    rcases List.mem_cons.1 hy with rfl | hy
    ·exact b1.2
    ·exact b2.2.2 y hy
theorem PO.all {α : Type} {l : List UInt8} {P : α → Prop} {one : Nat → PR α} (h : ∀ k, k ≤ l.length → PO l.length P (one k)) {k : Nat} (hk : k ≤ l.length) : PO l.length (fun xs => xs.length ≤ 65535 ∧ ∀ x ∈ xs, P x) (pAll one l k) := by
 unfold pAll
 split
 ·exact PO.err
 ·rename_i n k1 h1
  have b1 := PO.short hk _ _ h1
  intro xs k2 h2
  have b2 := PO.rep h n k1 b1.1 _ _ h2
  exact ⟨b2.1, by rw [b2.2.1]; exact b1.2, b2.2.2⟩
def MsB (m : MsP) : Prop := m.ks.length ≤ 65535 ∧ (m.ins.length ≤ 65535 ∧ ∀ x ∈ m.ins, InB x) ∧ (m.lks.length ≤ 65535 ∧ ∀ x ∈ m.lks, LoB x)
theorem PO.msg {l : List UInt8} {k : Nat} : PO l.length MsB (pMsg l k) := by
 refine PO.byte.bind fun c k1 h1 _ => ?_
 split
 ·exact PO.err
 ·refine PO.bind (P := fun _ => True) ?_ fun h0 k2 b2 _ => PO.byte.bind fun h1 k3 b3 _ => PO.byte.bind fun h2 k4 b4 _ => (PO.all (fun _ _ => PO.key) b4).bind fun ks k5 b5 c5 => PO.key.bind fun rc k6 b6 _ => (PO.all (fun _ _ => PO.instr) b6).bind fun ins k7 b7 c7 =>
   PO.bind (P := fun xs => xs.length ≤ 65535 ∧ ∀ x ∈ xs, LoB x) ?_ fun lks k8 b8 c8 => PO.ok b8 ⟨c5.1, c7, c8⟩
  ·split
   ·exact PO.byte
   ·exact PO.ok h1 trivial
  ·split
   ·exact PO.all (fun _ _ => PO.look) b7
   ·exact PO.ok b7 ⟨Nat.zero_le _, fun _ h => by cases h⟩
def TxB (x : TxP) : Prop := x.sg.length ≤ 65535 ∧ MsB x.m
theorem PO.tx {l : List UInt8} : PO l.length TxB (pTx l) := by
 unfold pTx
 split
 ·rename_i h0
  have hf := gsh_fit l 0 0 (by decide) (by omega) h0
  split
  ·exact PO.err
  ·rename_i S R hS
   have h2 := takeS_len hS
   rw [List.length_drop] at h2
   intro x k h
   cases h3 : pMsg R 0 with
   | error e => rw [pBind_err h3] at h; cases h
   | ok y =>
    rw [pBind_ok h3] at h
    cases h
    have := PO.msg _ _ h3
    exact ⟨by omega, by show S.length ≤ _; omega, this.2⟩
 ·exact PO.err
end Go.Proofs.YtiaehkkkcaeaiaaGreatDoor
namespace Go.Proofs.YtiaehkkkcaeaiaaGreatDoor
def sat (a b : UInt64) : UInt64 := if a.toNat + b.toNat < 18446744073709551616 then a + b else 18446744073709551615
end Go.Proofs.YtiaehkkkcaeaiaaGreatDoor
namespace Go.Proofs.YtiaehkkkcaeaiaaGreatDoor
open Go.RowKit
open Go.ChangeMaps (setBlock)
attribute [local go_sem ↓] wlKey ldKey stKey ldSg stSg wlTc ldTc stTc eqKey1
attribute [local go_sem] cell_blk frozen_blk kc_ext one_int one_bool one_ptr one_slice one_map kc_one kc_one0 kc_size zKey_size sgc_size sgc_ext sgc_one0 sgc_one' txr_size txr_all txr_one txr_one' txr0 txr38 txr39 txr0' txr38' txr39' zTx_size Value.cells
theorem hmf (fn : Fn) (first cap : Array Value) (w : World) : (Instr.makeFunc fn first cap).run Tryz.prog w = .ok (.func fn first cap) w := rfl
theorem addLaid (x y : Nat) (hx : x < 18446744073709551616) (hy : y < 18446744073709551616) (w : World) : (callFunc 119 #[.int .u64 (x : Int), .int .u64 (y : Int), .int .u64 0]).run Tryz.prog w =
   .ok (.value (.tuple #[.int .u64 (((x + y) % 18446744073709551616 : Nat) : Int), .int .u64 (((x + y) / 18446744073709551616 : Nat) : Int)])) w := by
 rw [run_callFunc_extern Tryz.func119 (by kernel_rfl) (by kernel_rfl) (by kernel_rfl) (e := add64Entry) (by kernel_rfl), run_add64 x y 0 (by omega) (by omega) (by omega) (by omega)]
 simp only [Result.andThen]
 congr 5 <;> omega
theorem addL0 (x : UInt64) (w : World) : (callFunc 119 #[.int .u64 0, u64v x, .int .u64 0]).run Tryz.prog w = .ok (.value (.tuple #[u64v x, .int .u64 0])) w := by
 have h := addLaid 0 x.toNat (by omega) x.toNat_lt w
 have hx := x.toNat_lt
 rw [Nat.zero_add, Nat.mod_eq_of_lt hx, Nat.div_eq_of_lt hx] at h
 exact h
theorem addL2 (x y : UInt64) (w : World) : (callFunc 119 #[u64v x, u64v y, .int .u64 0]).run Tryz.prog w = .ok (.value (.tuple #[u64v (x + y), .int .u64 (if 18446744073709551616 ≤ x.toNat + y.toNat then 1 else 0)])) w := by
 have h := addLaid x.toNat y.toNat x.toNat_lt y.toNat_lt w
 have hx := x.toNat_lt
 have hy := y.toNat_lt
 refine h.trans ?_
 rw [u64v, UInt64.toNat_add]
 by_cases hc : 18446744073709551616 ≤ x.toNat + y.toNat
 ·rw [if_pos hc, show (x.toNat + y.toNat) / 18446744073709551616 = 1 by omega]
  rfl
 ·rw [if_neg hc, show (x.toNat + y.toNat) / 18446744073709551616 = 0 by omega]
  rfl
theorem sat_over {a b : UInt64} (h : 18446744073709551616 ≤ a.toNat + b.toNat) : u64v (sat a b) = .int .u64 18446744073709551615 := by
 unfold sat
 rw [if_neg (by omega)]
 rfl
theorem sat_in {a b : UInt64} (h : ¬ 18446744073709551616 ≤ a.toNat + b.toNat) : sat a b = a + b := by
 unfold sat
 rw [if_pos (by omega)]
theorem or_zero (a : UInt64) : bits .or .u64 (a.toNat : Int) 0 = (a.toNat : Int) := by
 have h := bits_or_u64_nat a.toNat 0 a.toNat_lt (by omega)
 rw [Nat.or_zero] at h
 exact h
theorem or_max (a : UInt64) : bits .or .u64 (a.toNat : Int) 18446744073709551615 = 18446744073709551615 := by
 have h := bits_or_u64_nat a.toNat 18446744073709551615 a.toNat_lt (by omega)
 have e : a.toNat ||| 18446744073709551615 = 18446744073709551615 := by
  have ha := a.toNat_lt
  apply Nat.eq_of_testBit_eq
  intro i
  rw [Nat.testBit_or]
  have h1 : (18446744073709551615 : Nat).testBit i = decide (i < 64) := Nat.testBit_two_pow_sub_one 64 i
  rw [h1]
  by_cases hi : i < 64
  ·simp [hi]
  ·have : a.toNat.testBit i = false := Nat.testBit_lt_two_pow (Nat.lt_of_lt_of_le ha (Nat.pow_le_pow_right (by omega) (by omega)))
   simp [hi, this]
 rw [e] at h
 exact h
theorem adds_cast (a x : UInt64) : ((a.toNat : Int) + (x.toNat : Int)) % 18446744073709551616 = ((a + x).toNat : Int) := by
 rw [UInt64.toNat_add]
 omega
theorem alU64 (w : World) : (Instr.alloc 37 true (.tuple #[])).run Tryz.prog w = .ok (.pointer (some ⟨w.heap.size, 0, none⟩)) (w.alloc (.cells #[.int .u64 0] 37)) := by kernel_rfl
theorem setBlk (w : World) {p : Nat} {o o' : Obj} (h : w.heap[p]? = some o) : (setBlock w p o').heap[p]? = some o' := heap_setBlock w o' (lt_size h)
set_option maxRecDepth 20000 in
set_option maxHeartbeats 1600000 in
theorem wsum1_c (p : Nat) (a x : UInt64) (w : World) (kp : w.heap[p]? = some (.cells #[u64v a] 37 (0, 0))) : Calls Tryz.prog 118 #[u64v x, pV p] w fun e w' => e = .returned (.tuple #[]) ∧ w'.heap[p]? = some (.cells #[u64v (sat a x)] 37 (0, 0)) ∧ Mod (fun i => i = p) w w' := by
 have h2 := addL2 a x
 have ho := or_zero (a + x)
 have hm := or_max (a + x)
 go_enter Tryz.func118, Tryz.ntmps118
 by_cases hc : 18446744073709551616 ≤ a.toNat + x.toNat
 ·have HC := Lib.hid (sat_over hc)
  simp only [if_pos hc] at h2
  clear hc ho
  have HM := Lib.hid hm
  clear hm
  go_wp2_with (simp only [h2])
  go_end0
  rw [setCell_blk kp]
  refine ⟨rfl, ?_, mod_set _ _ _⟩
  rw [setBlk w kp, HC.out, adds_cast a x, show IntKind.u64.wrap (-1) = 18446744073709551615 from rfl, HM.out]
  rfl
 ·have HC := Lib.hid (sat_in hc)
  simp only [if_neg hc] at h2
  clear hc hm
  have HO := Lib.hid ho
  clear ho
  go_wp2_with (simp only [h2])
  go_end0
  rw [setCell_blk kp]
  refine ⟨rfl, ?_, mod_set _ _ _⟩
  rw [setBlk w kp, HC.out, adds_cast a x, HO.out]
  rfl
theorem sat_zero (x : UInt64) : sat 0 x = x := by
 have h := x.toNat_lt
 rw [sat_in (by show ¬ 18446744073709551616 ≤ 0 + x.toNat; omega), UInt64.zero_add]
set_option maxRecDepth 20000 in
set_option maxHeartbeats 1600000 in
theorem wsum_c (g : Nat) (a b : UInt64) (w : World) (kg : w.heap[g]? = some (.cells #[u64v a, u64v b] 37 (0, 0))) : Calls Tryz.prog 78 #[.slice (some ⟨g, 0, none⟩) 2 2] w fun e w' => e = .returned (u64v (sat a b)) ∧ Mod (fun _ => False) w w' := by
 have hmf := hmf
 go_enter Tryz.func78, Tryz.ntmps78
 go_upto_region 1 with fail
 have Lkg := lt_size kg
 refine wp_pass0 (C := fun _ _ _ => False) (κ := fun i => [3, 4].getD i 0) [0, 1] (by kernel_rfl) (by kernel_rfl) (fun _ _ d _ _ h => by cases d <;> first | exact h | exact absurd h (hP _ _ _)) ?_
 (refine TD.allocB (by simp only [zK]; rfl) rfl (by rfl) rfl rfl alU64 (fun p3 hp3 => ?n1); try simp only [zL])
 (refine TD.storeB (d := ?d2) (T := ?T2) (y := ?y2) (p := ?p2) (b := ?b2) (v := ?v2) (by simp only [zK]; rfl) rfl (by rfl) ?hd2 ?hop2 ?hev2 ?hx2 ?hb2 ?htag2 (fun w1 hb1 => ?hy2) ?hn2; (case hd2 => rfl); (case hop2 => rfl); (case hev2 => (simp only [zM]; (try rfl))); (case hx2 => simp only [zM]; try rfl); (case hb2 => first | exact Bx.set_same _ _ _ | (simp only [Bx.set_same]; rfl)); (case hy2 => (go_simp; (try first | with_reducible rfl | (rw [setCell_blk hb1]; rfl)))); try simp only [zL])
 refine TD.nil (fun w1 hr => ?_)
 replace kg := hr.mod.at kg (fun h => h)
 have kp3 := hr.box p3 _ (by first | exact Bx.set_same _ _ _ | (simp only [Bx.set_same]; rfl)); dsimp only [Value.cells] at kp3; obtain ⟨gp3, kp3⟩ := kp3
 have m1 := hr.mod
 clear hr
 have hgp : g ≠ p3 := by omega
 have KG := Lib.hid kg
 clear kg
 go_wp2_with fail
 go_loopw [10] (fun s10 ws => ∃ i : Nat, i ≤ 2 ∧ s10 = .int .i64 (i : Int) ∧ ws.heap[p3]? = some (.cells #[u64v (if i = 0 then 0 else if i = 1 then a else sat a b)] 37 (0, 0)) ∧ Mod (fun i => i = p3) w1 ws) (fun s10 _ => 2 - (intOf s10).toNat)
 case atStart => exact ⟨0, by omega, rfl, kp3, Mod.refl _ _⟩
 case round =>
  obtain ⟨i, hi, rfl, kp, hm⟩ := hrel
  have kg := hm.at_ne KG.out hgp
  clear kp3
  rcases (by omega : i = 0 ∨ i = 1 ∨ i = 2) with rfl | rfl | rfl
  ·simp only [if_true] at kp
   have KP := Lib.hid kp
   go_wp2_with fail
   refine (wsum1_c p3 0 a _ KP.out).mono ?_
   rintro e w3 ⟨rfl, k3, m3⟩
   rw [sat_zero] at k3
   have m3 := hm.trans m3
   clear kp kg
   go_wp2_with fail
   go_roundw
   case rel => exact ⟨1, by omega, by go_num, by simpa using k3, m3⟩
   case measure => simp [intOf]
  ·simp only [Nat.one_ne_zero, if_false, if_true] at kp
   have KP := Lib.hid kp
   go_wp2_with fail
   refine (wsum1_c p3 a b _ KP.out).mono ?_
   rintro e w3 ⟨rfl, k3, m3⟩
   have m3 := hm.trans m3
   clear kp kg
   go_wp2_with fail
   go_roundw
   case rel => exact ⟨2, by omega, by go_num, by simpa using k3, m3⟩
   case measure => simp [intOf]
  ·simp only [show ¬ (2 : Nat) = 0 by omega, show ¬ (2 : Nat) = 1 by omega, if_false] at kp
   clear kg
   go_wp2_with fail
   go_ret
   exact ⟨rfl, m1.thenB hm (.inl gp3)⟩
end Go.Proofs.YtiaehkkkcaeaiaaGreatDoor
namespace Go.Proofs.YtiaehkkkcaeaiaaGreatDoor
open Go.RowKit
open Go.ChangeMaps (setBlock)
attribute [local go_sem ↓] wlKey ldKey stKey ldSg stSg wlTc ldTc stTc eqKey1
attribute [local go_sem] cell_blk frozen_blk kc_ext one_int one_bool one_ptr one_slice one_map kc_one kc_one0 kc_size zKey_size sgc_size sgc_ext sgc_one0 sgc_one' txr_size txr_all txr_one txr_one' txr0 txr38 txr39 txr0' txr38' txr39' zTx_size Value.cells
set_option maxHeartbeats 1000000 in
theorem mul64_c (x y : Nat) (hx : x < 18446744073709551616) (hy : y < 18446744073709551616) (w : World) :
  Calls Tryz.prog 133 #[.int .u64 x, .int .u64 y] w fun e w' => e = .returned (.tuple #[.int .u64 ((x * y / 18446744073709551616 : Nat) : Int), .int .u64 ((x * y % 18446744073709551616 : Nat) : Int)]) ∧ w' = w := by
 obtain ⟨bd, bt, bw, hhi⟩ := Lib.mul64_hi x y hx hy
 have ba := Lib.half_mul_le (a := x / 4294967296) (b := y / 4294967296) (by omega) (by omega)
 have bb := Lib.half_mul_le (a := x / 4294967296) (b := y % 4294967296) (by omega) (by omega)
 have bc := Lib.half_mul_le (a := x % 4294967296) (b := y / 4294967296) (by omega) (by omega)
 have ba' : x / 4294967296 * (y / 4294967296) < 18446744073709551616 := by omega
 have bb' : x / 4294967296 * (y % 4294967296) < 18446744073709551616 := by omega
 have bc' : x % 4294967296 * (y / 4294967296) < 18446744073709551616 := by omega
 have bh1 : x / 4294967296 * (y / 4294967296) + (x / 4294967296 * (y % 4294967296) + x % 4294967296 * (y % 4294967296) / 4294967296) / 4294967296 < 18446744073709551616 := by omega
 have bh : x / 4294967296 * (y / 4294967296) + (x / 4294967296 * (y % 4294967296) + x % 4294967296 * (y % 4294967296) / 4294967296) / 4294967296 + ((x / 4294967296 * (y % 4294967296) + x % 4294967296 * (y % 4294967296) / 4294967296) % 4294967296 + x % 4294967296 * (y / 4294967296)) / 4294967296 < 18446744073709551616 := by omega
 go_enter Tryz.func133, Tryz.ntmps133
 go_wp2
 simp only [Mul64.maskN x hx, Mul64.maskN y hy, Mul64.divN, Mul64.mulN, Mul64.addN, Mul64.wrapN _ bd, Mul64.wrapN _ bb', Mul64.wrapN _ bt, Mul64.maskN _ bt, Mul64.wrapN _ bc', Mul64.wrapN _ bw, Mul64.wrapN _ ba', Mul64.wrapN _ bh1, Mul64.wrapN _ bh, Mul64.wrapM (x * y)]
 rw [hhi]
 go_ret2
 exact ⟨rfl, rfl⟩
theorem mul_c (x y : UInt64) (w : World) : Calls Tryz.prog 120 #[u64v x, u64v y] w fun e w' => e = .returned (.tuple #[.int .u64 ((x.toNat * y.toNat / 18446744073709551616 : Nat) : Int), .int .u64 ((x.toNat * y.toNat % 18446744073709551616 : Nat) : Int)]) ∧ w' = w := by
 have H := mul64_c x.toNat y.toNat x.toNat_lt y.toNat_lt
 generalize x.toNat * y.toNat / 18446744073709551616 = hi at *
 generalize x.toNat * y.toNat % 18446744073709551616 = lo at *
 have HH := Lib.hid H
 clear H
 go_enter Tryz.func120, Tryz.ntmps120
 go_wp2_with fail
 go_at_call 133
 refine (HH.out _).mono ?_
 rintro e w2 ⟨rfl, rfl⟩
 go_wp2_with fail
 go_ret2
 exact ⟨rfl, rfl⟩
theorem div1_c (z : UInt64) (w : World) : Calls Tryz.prog 121 #[.int .u64 0, u64v z, .int .u64 1] w fun e w' => (∃ r, e = .returned (.tuple #[u64v z, .int .u64 r])) ∧ Mod (fun _ => False) w w' := by
 have hw : IntKind.u64.wrap (z.toNat : Int) = (z.toNat : Int) := Mul64.wrapN _ z.toNat_lt
 go_enter Tryz.func121, Tryz.ntmps121
 go_upto_region 6 with fail
 refine wp_pass (C := fun _ _ _ => False) (κ := fun i => [0, 0, 0, 0, 0, 0, 0, 0].getD i 0) [0, 1, 2, 3, 4, 5, 6, 7] (by kernel_rfl) (by kernel_rfl) (fun _ _ d _ _ h => by cases d <;> first | exact h | exact absurd h (hP _ _ _)) ?_
 iterate 8 (refine TD.val0 (v := ?_) (by simp only [zK]; rfl) rfl (by rfl) (fun w1 => ?_) ?_; rotate_left; (next => go_simp; try with_reducible rfl); try simp only [zL])
 refine TD.nil (fun w1 hr => ?_)
 have m1 := hr.mod
 go_wp2_with fail
 go_ret2
 exact ⟨⟨_, rfl⟩, m1⟩
def tim (a b : UInt64) : UInt64 := if a.toNat * b.toNat < 18446744073709551616 then a * b else 18446744073709551615
set_option maxRecDepth 20000 in
theorem times1_c (a b : UInt64) (w : World) : Calls Tryz.prog 80 #[u64v a, u64v b, .int .u64 1, .bool false] w fun e w' => e = .returned (u64v (tim a b)) ∧ Mod (fun _ => False) w w' := by
 by_cases hc : a.toNat * b.toNat < 18446744073709551616
 ·have h1 : a.toNat * b.toNat / 18446744073709551616 = 0 := Nat.div_eq_of_lt hc
  have h2 : ((a.toNat * b.toNat % 18446744073709551616 : Nat) : Int) = ((tim a b).toNat : Int) := by
   unfold tim
   rw [if_pos hc, UInt64.toNat_mul]
  have hT := mul_c a b
  rw [h1, h2] at hT
  generalize tim a b = z at *
  have HT := Lib.hid hT
  clear hT h1 h2 hc
  go_enter Tryz.func80, Tryz.ntmps80
  go_wp2_with fail
  go_at_call 120
  refine (HT.out _).mono ?_
  rintro e w2 ⟨rfl, rfl⟩
  go_wp2_with fail
  go_at_call 121
  refine (div1_c z _).mono ?_
  rintro e w3 ⟨⟨r, rfl⟩, m3⟩
  go_wp2_with fail
  go_ret
  exact ⟨rfl, m3⟩
 ·obtain ⟨hi, hhi⟩ : ∃ hi, a.toNat * b.toNat / 18446744073709551616 = hi := ⟨_, rfl⟩
  obtain ⟨lo, hlo⟩ : ∃ lo, a.toNat * b.toNat % 18446744073709551616 = lo := ⟨_, rfl⟩
  have h2 : u64v (tim a b) = .int .u64 18446744073709551615 := by
   unfold tim
   rw [if_neg hc]
   rfl
  have hge : (1 : Int) ≤ (hi : Int) := by
   have := Nat.le_of_not_lt hc
   omega
  have hT := mul_c a b
  rw [hhi, hlo] at hT
  have HT := Lib.hid hT
  have H2 := Lib.hid h2
  clear hT h2 hc hhi hlo
  go_enter Tryz.func80, Tryz.ntmps80
  go_wp2_with fail
  go_at_call 120
  refine (HT.out _).mono ?_
  rintro e w2 ⟨rfl, rfl⟩
  go_wp2_with fail
  go_ret
  exact ⟨by rw [H2.out]; rfl, Mod.refl _ _⟩
end Go.Proofs.YtiaehkkkcaeaiaaGreatDoor
namespace Go.Proofs.YtiaehkkkcaeaiaaGreatDoor
open Go.RowKit
open Go.ChangeMaps (setBlock)
attribute [local go_sem ↓] wlKey ldKey stKey ldSg stSg wlTc ldTc stTc eqKey1
attribute [local go_sem] cell_blk frozen_blk kc_ext one_int one_bool one_ptr one_slice one_map kc_one kc_one0 kc_size zKey_size sgc_size sgc_ext sgc_one0 sgc_one' txr_size txr_all txr_one txr_one' txr0 txr38 txr39 txr0' txr38' txr39' zTx_size Value.cells
def wholeP (b : List UInt8) : Except Nat TxP := if 1232 < b.length then .error 3 else match pTx b with
 | .error e => .error e
 | .ok (x, k) => if k < b.length then .error 4 else .ok x
def totP (x : TxP) : Nat := x.m.ks.length + (x.m.lks.map (fun l => l.w.length + l.r.length)).sum
def signedP (x : TxP) : Bool := decide (0 < x.m.h0.toNat) && decide (x.sg.length = x.m.h0.toNat)
def headedP (x : TxP) : Bool := decide (x.m.h1.toNat < x.m.h0.toNat) && decide (x.m.h0.toNat + x.m.h2.toNat ≤ x.m.ks.length)
def lookedP (x : TxP) : Bool := x.m.lks.all (fun l => decide (l.w.length + l.r.length ≠ 0))
def fewP (x : TxP) : Bool := decide (totP x ≤ 64)
def pointP (keys all : Nat) (i : InP) : Bool := decide (i.p.toNat ≠ 0) && decide (i.p.toNat < keys) && i.a.all (fun c => decide (c.toNat < all))
def pointedP (x : TxP) : Bool := x.m.ins.all (pointP x.m.ks.length (totP x))
def onceP (x : TxP) : Bool := decide x.m.ks.Nodup
def chkP (x : TxP) : Nat := if !signedP x then 6 else if !headedP x then 7 else if !lookedP x then 10 else if !fewP x then 3 else if !pointedP x then 8 else if !onceP x then 9 else 0
def wireP (b : List UInt8) : Except Nat TxP := match wholeP b with
 | .error e => .error e
 | .ok x => if chkP x = 0 then .ok x else .error (chkP x)
abbrev TbL := List (Key × List Key)
def tbFind (T : TbL) (k : Key) : Option (List Key) := (T.find? (fun x => decide (x.1 = k))).map (·.2)
def tbPut (T : TbL) (k : Key) (l : List Key) : TbL := if l.length = 0 ∨ 256 < l.length then T else if (tbFind T k).isSome then T else T ++ [(k, l)]
def pickP (l : List Key) : List UInt8 → Option (List Key)
 | [] => some []
 | i :: is => match l[i.toNat]? with
  | none => none
  | some k => (pickP l is).map (k :: ·)
def resP (T : TbL) : List LoP → List Key × List Key → Except Nat (List Key × List Key)
 | [], o => .ok o
 | x :: xs, o => match tbFind T x.t with
  | none => .error 11
  | some l => match pickP l x.w, pickP l x.r with
   | some a, some b => resP T xs (o.1 ++ a, o.2 ++ b)
   | _, _ => .error 8
def keyB : Key := ⟨3 :: List.replicate 31 0, rfl⟩
def knownP (k : Key) : Bool := decide (k = key0) || decide (k = keyB)
def ownRP (m : MsP) (i : Nat) (k : Key) : Role := ⟨k, decide (i < m.h0.toNat), if i < m.h0.toNat then decide (((i : Nat) : Int) < (m.h0.toNat : Int) - m.h1.toNat) else decide (((i : Nat) : Int) < (m.ks.length : Int) - m.h2.toNat)⟩
def rolesL (m : MsP) (ws rs : List Key) : List Role := (m.ks.mapIdx (ownRP m)) ++ ws.map (fun k => ⟨k, false, true⟩) ++ rs.map (fun k => ⟨k, false, false⟩)
def rolesP (m : MsP) (ws rs : List Key) : Except Nat (List Role) := if ((rolesL m ws rs).map (·.k)).Nodup then .ok ((rolesL m ws rs).map (fun r => ⟨r.k, r.s, r.w && !knownP r.k⟩)) else .error 9
def coL (s n d u : UInt64) : List UInt64 := [tim s 720, tim n 300, d / 4, u]
def coF (s n d u : UInt64) : UInt64 := (coL s n d u).foldl sat 0
def wrL (l : List Role) : List Key := (l.filter (·.w)).map (·.k)
def toldP (d : List UInt8) : Option (Nat × UInt64) := if d.length = 5 ∧ d[0]? = some 2 then some (0, UInt64.ofNat (leV (d.drop 1))) else if d.length = 9 ∧ d[0]? = some 3 then some (1, UInt64.ofNat (leV (d.drop 1))) else none
def wordP (m : MsP) (i : InP) : Bool := match m.ks[i.p.toNat]? with
 | some k => decide (k = keyB)
 | none => false
structure BuP where
 n : Nat
 bad : Option Nat
 u : Option UInt64
 p : Option UInt64
def budStep (m : MsP) (s : BuP) (j : Nat) (i : InP) : BuP := if !wordP m i then { s with n := s.n + 1 } else if s.bad.isSome then s else match toldP i.d with
 | none => { s with bad := some j }
 | some (0, v) => if s.u.isSome then { s with bad := some j } else { s with u := some v }
 | some (_, v) => if s.p.isSome then { s with bad := some j } else { s with p := some v }
def budL (m : MsP) : BuP → Nat → List InP → BuP
 | s, _, [] => s
 | s, j, i :: l => budL m (budStep m s j i) (j + 1) l
def budP (m : MsP) : BuP := budL m ⟨0, none, none, none⟩ 0 m.ins
def BuP.units (s : BuP) : UInt64 := if (s.u.getD (UInt64.ofNat s.n * 200000)).toNat ≤ 1400000 then s.u.getD (UInt64.ofNat s.n * 200000) else 1400000
def BuP.price (s : BuP) : UInt64 := s.p.getD 0
def BuP.badI (s : BuP) : Int := match s.bad with
 | some j => (j : Int)
 | none => -1
theorem budL_snoc {m : MsP} : ∀ {l : List InP} {s : BuP} {j : Nat} {x : InP}, budL m s j (l ++ [x]) = budStep m (budL m s j l) (j + l.length) x
 | [], s, j, x => rfl
 | y :: l, s, j, x => by
  rw [List.cons_append, budL, budL, budL_snoc, List.length_cons]
  congr 1
  omega
def timG (a b d : UInt64) (up : Bool) : UInt64 := if d.toNat ≤ a.toNat * b.toNat / 18446744073709551616 then 18446744073709551615 else if up = true ∧ 0 < a.toNat * b.toNat % d.toNat then sat (UInt64.ofNat (a.toNat * b.toNat / d.toNat)) 1 else UInt64.ofNat (a.toNat * b.toNat / d.toNat)
def feeF (s u p : UInt64) : UInt64 := sat (tim s 5000) (timG p u 1000000 true)
def priF (s u p c : UInt64) : UInt64 := timG (sat (tim s 5000 / 2) (timG p u 1000000 true)) 1000000 (sat c 1) false
structure RyP where
 b : List UInt8
 x : TxP
 ro : List Role
 u : UInt64
 p : UInt64
 bad : Int
 fee : UInt64
 cost : UInt64
 pri : UInt64
def dSumP (l : List InP) : UInt64 := l.foldl (fun d x => d + UInt64.ofNat x.d.length) 0
def tellP (b : List UInt8) (x : TxP) (ro : List Role) : RyP :=
 let u := (budP x.m).units
 let p := (budP x.m).price
 let s := UInt64.ofNat x.sg.length
 let c := coF s (UInt64.ofNat (wrL ro).length) (dSumP x.m.ins) u
 ⟨b, x, ro, u, p, (budP x.m).badI, feeF s u p, c, priF s u p c⟩
def readyP (T : TbL) (b : List UInt8) : Except Nat RyP := match wireP b with
 | .error e => .error e
 | .ok x => match resP T x.m.lks ([], []) with
  | .error e => .error e
  | .ok (ws, rs) => match rolesP x.m ws rs with
   | .error e => .error e
   | .ok ro => .ok (tellP b x ro)
end Go.Proofs.YtiaehkkkcaeaiaaGreatDoor
namespace Go.Proofs.YtiaehkkkcaeaiaaGreatDoor
open Go.RowKit
open Go.ChangeMaps (setBlock)
attribute [local go_sem ↓] wlKey ldKey stKey ldSg stSg wlTc ldTc stTc eqKey1
attribute [local go_sem] cell_blk frozen_blk kc_ext one_int one_bool one_ptr one_slice one_map kc_one kc_one0 kc_size zKey_size sgc_size sgc_ext sgc_one0 sgc_one' txr_size txr_all txr_one txr_one' txr0 txr38 txr39 txr0' txr38' txr39' zTx_size Value.cells
theorem bK0 (w : World) : (Instr.build 82 #[]).run Tryz.prog w = .ok (.agg (kc key0)) w := by kernel_rfl
theorem bKB (w : World) : (Instr.build 82 #[(0, .int .u8 3)]).run Tryz.prog w = .ok (.agg (kc keyB)) w := by kernel_rfl
theorem system_c (w : World) : Calls Tryz.prog 122 #[] w fun e w' => e = .returned (.agg (kc key0)) ∧ Mod (fun _ => False) w w' := by
 have hb := bK0
 go_enter Tryz.func122, Tryz.ntmps122
 go_upto_region 0 with fail
 refine wp_pass0 (C := fun _ _ _ => False) (κ := fun i => [3].getD i 0) [0] (by kernel_rfl) (by kernel_rfl) (fun _ _ d _ _ h => by cases d <;> first | exact h | exact absurd h (hP _ _ _)) ?_
 (refine TD.allocB (by simp only [zK]; rfl) rfl (by rfl) rfl rfl alKey (fun p0 hp0 => ?n1); try simp only [zL])
 refine TD.nil (fun w1 hr => ?_)
 have kp0 := hr.box p0 _ (by first | exact Bx.set_same _ _ _ | (simp only [Bx.set_same]; rfl)); dsimp only [Value.cells] at kp0; obtain ⟨gp0, kp0⟩ := kp0
 have m1 := hr.mod
 go_upto_region 1 with fail
 have Lkp0 := lt_size kp0
 refine wp_pass0 (C := fun _ _ _ => False) (κ := fun i => [0, 5].getD i 0) [0, 1] (by kernel_rfl) (by kernel_rfl) (fun _ _ d _ _ h => by cases d <;> first | exact h | exact absurd h (hP _ _ _)) ?_
 (refine TD.build (v := ?v2) (ps := ?p2) (by simp only [zK]; rfl) rfl (by rfl) rfl ?hx2 (fun w1 => ?y2) ?n2; (case hx2 => (simp only [List.map_toArray, List.map_cons, List.map_nil, zM]; (try rfl))); (case y2 => (rw [hb]; (try with_reducible rfl))); try simp only [zL])
 refine TD.eff (by simp only [zK]; rfl) rfl (fun wE hr => ?_)
 replace kp0 := hr.mod.at0 kp0
 have mE := hr.mod
 (refine eff_store (X := ?X3) (Y := ?Y3) (w' := ?w3) (by simp only [zK]; rfl) (by rfl) rfl ?hx3 ?hz3 ?y3 ?n3; (case hx3 => simp only [zM]; try rfl); (case hz3 => simp only [zM]; try rfl); (case y3 => go_simp; try with_reducible rfl))
 (first | refine TE.nil_set kp0 (fun w2 kp0 mS => ?_) | refine TE.nil_setCell kp0 (fun w2 kp0 mS => ?_))
 (try simp only [Array.setIfInBounds, zL] at kp0)
 have m2 := (m1.then0 mE).thenB mS (.inl gp0)
 clear hr mE mS
 go_wp2_with fail
 exact bodyPost_ret (results_cell1 (v := .agg (kc key0)) rfl rfl (by rw [ldKey]; simp [kp0, kc_size, kc_ext])) rfl ⟨rfl, m2⟩
theorem budgetK_c (w : World) : Calls Tryz.prog 116 #[] w fun e w' => e = .returned (.agg (kc keyB)) ∧ Mod (fun _ => False) w w' := by
 have hb := bKB
 go_enter Tryz.func116, Tryz.ntmps116
 go_upto_region 0 with fail
 refine wp_pass0 (C := fun _ _ _ => False) (κ := fun i => [3].getD i 0) [0] (by kernel_rfl) (by kernel_rfl) (fun _ _ d _ _ h => by cases d <;> first | exact h | exact absurd h (hP _ _ _)) ?_
 (refine TD.allocB (by simp only [zK]; rfl) rfl (by rfl) rfl rfl alKey (fun p0 hp0 => ?n4); try simp only [zL])
 refine TD.nil (fun w1 hr => ?_)
 have kp0 := hr.box p0 _ (by first | exact Bx.set_same _ _ _ | (simp only [Bx.set_same]; rfl)); dsimp only [Value.cells] at kp0; obtain ⟨gp0, kp0⟩ := kp0
 have m1 := hr.mod
 go_upto_region 1 with fail
 have Lkp0 := lt_size kp0
 refine wp_pass0 (C := fun _ _ _ => False) (κ := fun i => [0, 5].getD i 0) [0, 1] (by kernel_rfl) (by kernel_rfl) (fun _ _ d _ _ h => by cases d <;> first | exact h | exact absurd h (hP _ _ _)) ?_
 (refine TD.build (v := ?v5) (ps := ?p5) (by simp only [zK]; rfl) rfl (by rfl) rfl ?hx5 (fun w1 => ?y5) ?n5; (case hx5 => (simp only [List.map_toArray, List.map_cons, List.map_nil, zM]; (try rfl))); (case y5 => (rw [hb]; (try with_reducible rfl))); try simp only [zL])
 refine TD.eff (by simp only [zK]; rfl) rfl (fun wE hr => ?_)
 replace kp0 := hr.mod.at0 kp0
 have mE := hr.mod
 (refine eff_store (X := ?X6) (Y := ?Y6) (w' := ?w6) (by simp only [zK]; rfl) (by rfl) rfl ?hx6 ?hz6 ?y6 ?n6; (case hx6 => simp only [zM]; try rfl); (case hz6 => simp only [zM]; try rfl); (case y6 => go_simp; try with_reducible rfl))
 (first | refine TE.nil_set kp0 (fun w2 kp0 mS => ?_) | refine TE.nil_setCell kp0 (fun w2 kp0 mS => ?_))
 (try simp only [Array.setIfInBounds, zL] at kp0)
 have m2 := (m1.then0 mE).thenB mS (.inl gp0)
 clear hr mE mS
 go_wp2_with fail
 exact bodyPost_ret (results_cell1 (v := .agg (kc keyB)) rfl rfl (by rw [ldKey]; simp [kp0, kc_size, kc_ext])) rfl ⟨rfl, m2⟩
theorem known_c (k : Key) (w : World) : Calls Tryz.prog 88 #[.agg (kc k)] w fun e w' => e = .returned (.bool (knownP k)) ∧ Mod (fun _ => False) w w' := by
 go_enter Tryz.func88, Tryz.ntmps88
 go_upto_region 0 with fail
 refine wp_pass0 (C := fun _ _ _ => False) (κ := fun i => [3, 0].getD i 0) [0, 1] (by kernel_rfl) (by kernel_rfl) (fun _ _ d _ _ h => by cases d <;> first | exact h | exact absurd h (hP _ _ _)) ?_
 (refine TD.box (v := ?v7) (by simp only [zK]; rfl) rfl (by rfl) rfl rfl ?hx7 (fun p1 hp1 => ?n7); (case hx7 => simp only [zM]; try rfl); try simp only [zL])
 (refine TD.val0 (v := ?_) (by simp only [zK]; rfl) rfl (by rfl) (fun w1 => ?_) ?_; rotate_left; (next => go_simp; try with_reducible rfl); try simp only [zL])
 refine TD.nil (fun w1 hr => ?_)
 have kp1 := hr.box p1 _ (by first | exact Bx.set_same _ _ _ | (simp only [Bx.set_same]; rfl)); dsimp only [Value.cells] at kp1; obtain ⟨gp1, kp1⟩ := kp1
 have m1 := hr.mod
 clear hr
 by_cases h0 : k = key0
 ·have hd := decide_eq_true h0
  have HE : Hid (knownP k = true) := Lib.hid (by unfold knownP; rw [hd]; rfl)
  clear h0
  go_upto_region 1 with fail
  have Lkp1 := lt_size kp1
  refine wp_pass (C := fun _ _ v => v = .agg (kc key0)) (κ := fun i => [1, 2, 0, 0, 1, 0, 0, 0, 0].getD i 0) [0, 1, 2, 3, 4, 5, 6, 7, 8] (by kernel_rfl) (by kernel_rfl) (fun _ _ d _ _ h => by cases d <;> first | exact h | exact absurd h (hP _ _ _)) ?_
  (refine TD.load (v := ?_) (p := ?_) (Mod.refl _ _) (by simp only [zK]; rfl) rfl (by rfl) rfl ?_ (fun wq hSq => ?_) ?_; rotate_left 2; (next => simp only [zM]; try rfl); (next => have kp1q := hSq.at kp1 (fun h => h); go_simp; try with_reducible rfl); try simp only [zL])
  (refine TD.call (f := ?f10) (args := ?r10) (Mod.refl _ _) (by simp only [zK]; rfl) rfl (by rfl) (fun w1 => ?y10) ?hsp10 ?n10; (case y10 => (go_simp; (first | with_reducible rfl | (constructor <;> with_reducible rfl)))); (case hsp10 => (intro wq hSq; have kp1q := hSq.at kp1 (fun h => h); exact (system_c wq).mono (fun e w' h => ⟨_, h.1, rfl, h.2⟩))); rintro _ hC; subst hC; try simp only [zL])
  iterate 2 (refine TD.val0 (v := ?_) (by simp only [zK]; rfl) rfl (by rfl) (fun w1 => ?_) ?_; rotate_left; (next => go_simp; try with_reducible rfl); try simp only [zL])
  (refine TD.pass1 (by simp only [zK]; rfl) rfl (by rfl) ?_; try simp only [zL])
  iterate 2 (refine TD.pass (by simp only [zK]; rfl) rfl (by rfl) ?_; try simp only [zL])
  iterate 2 (refine TD.val0 (v := ?_) (by simp only [zK]; rfl) rfl (by rfl) (fun w1 => ?_) ?_; rotate_left; (next => go_simp; try with_reducible rfl); try simp only [zL])
  refine TD.nil (fun w2 hr => ?_)
  replace kp1 := hr.mod.at kp1 (fun h => h)
  have m2 := m1.then0 hr.mod
  clear hr
  go_wp2_with fail
  go_ret
  exact ⟨by rw [HE.out]; rfl, m2⟩
 ·have hd := decide_eq_false h0
  by_cases h1 : k = keyB
  ·have hd1 := decide_eq_true h1
   have HE : Hid (knownP k = true) := Lib.hid (by unfold knownP; rw [hd, hd1]; rfl)
   clear h0 h1
   go_upto_region 1 with fail
   have Lkp1 := lt_size kp1
   refine wp_pass (C := fun f _ v => (f = 122 → v = .agg (kc key0)) ∧ (f = 116 → v = .agg (kc keyB))) (κ := fun i => [1, 2, 0, 0, 1, 2, 0, 0, 0].getD i 0) [0, 1, 2, 3, 4, 5, 6, 7, 8] (by kernel_rfl) (by kernel_rfl) (fun _ _ d _ _ h => by cases d <;> first | exact h | exact absurd h (hP _ _ _)) ?_
   (refine TD.load (v := ?_) (p := ?_) (Mod.refl _ _) (by simp only [zK]; rfl) rfl (by rfl) rfl ?_ (fun wq hSq => ?_) ?_; rotate_left 2; (next => simp only [zM]; try rfl); (next => have kp1q := hSq.at kp1 (fun h => h); go_simp; try with_reducible rfl); try simp only [zL])
   (refine TD.call (f := ?f19) (args := ?r19) (Mod.refl _ _) (by simp only [zK]; rfl) rfl (by rfl) (fun w1 => ?y19) ?hsp19 ?n19; (case y19 => (go_simp; (first | with_reducible rfl | (constructor <;> with_reducible rfl)))); (case hsp19 => (intro wq hSq; have kp1q := hSq.at kp1 (fun h => h); exact (system_c wq).mono (fun e w' h => ⟨_, h.1, ⟨fun _ => rfl, fun e => (by simp at e)⟩, h.2⟩))); rintro _ hC; obtain rfl := hC.1 rfl; try simp only [zL])
   iterate 3 first | (refine TD.val0 (v := ?_) (by simp only [zK]; rfl) rfl (by rfl) (fun w1 => ?_) ?_; rotate_left; (next => go_simp; try with_reducible rfl); try simp only [zL]) | (refine TD.load (v := ?_) (p := ?_) (Mod.refl _ _) (by simp only [zK]; rfl) rfl (by rfl) rfl ?_ (fun wq hSq => ?_) ?_; rotate_left 2; (next => simp only [zM]; try rfl); (next => have kp1q := hSq.at kp1 (fun h => h); go_simp; try with_reducible rfl); try simp only [zL])
   (refine TD.call (f := ?f23) (args := ?r23) (Mod.refl _ _) (by simp only [zK]; rfl) rfl (by rfl) (fun w1 => ?y23) ?hsp23 ?n23; (case y23 => (go_simp; (first | with_reducible rfl | (constructor <;> with_reducible rfl)))); (case hsp23 => (intro wq hSq; have kp1q := hSq.at kp1 (fun h => h); exact (budgetK_c wq).mono (fun e w' h => ⟨_, h.1, ⟨fun e => (by simp at e), fun _ => rfl⟩, h.2⟩))); rintro _ hC; obtain rfl := hC.2 rfl; try simp only [zL])
   iterate 3 (refine TD.val0 (v := ?_) (by simp only [zK]; rfl) rfl (by rfl) (fun w1 => ?_) ?_; rotate_left; (next => go_simp; try with_reducible rfl); try simp only [zL])
   refine TD.nil (fun w2 hr => ?_)
   replace kp1 := hr.mod.at kp1 (fun h => h)
   have m2 := m1.then0 hr.mod
   clear hr
   go_wp2_with fail
   go_ret
   exact ⟨by rw [HE.out]; rfl, m2⟩
  ·have hd1 := decide_eq_false h1
   have HE : Hid (knownP k = false) := Lib.hid (by unfold knownP; rw [hd, hd1]; rfl)
   clear h0 h1
   go_upto_region 1 with fail
   have Lkp1 := lt_size kp1
   refine wp_pass (C := fun f _ v => (f = 122 → v = .agg (kc key0)) ∧ (f = 116 → v = .agg (kc keyB))) (κ := fun i => [1, 2, 0, 0, 1, 2, 0, 0, 0].getD i 0) [0, 1, 2, 3, 4, 5, 6, 7, 8] (by kernel_rfl) (by kernel_rfl) (fun _ _ d _ _ h => by cases d <;> first | exact h | exact absurd h (hP _ _ _)) ?_
   (refine TD.load (v := ?_) (p := ?_) (Mod.refl _ _) (by simp only [zK]; rfl) rfl (by rfl) rfl ?_ (fun wq hSq => ?_) ?_; rotate_left 2; (next => simp only [zM]; try rfl); (next => have kp1q := hSq.at kp1 (fun h => h); go_simp; try with_reducible rfl); try simp only [zL])
   (refine TD.call (f := ?f28) (args := ?r28) (Mod.refl _ _) (by simp only [zK]; rfl) rfl (by rfl) (fun w1 => ?y28) ?hsp28 ?n28; (case y28 => (go_simp; (first | with_reducible rfl | (constructor <;> with_reducible rfl)))); (case hsp28 => (intro wq hSq; have kp1q := hSq.at kp1 (fun h => h); exact (system_c wq).mono (fun e w' h => ⟨_, h.1, ⟨fun _ => rfl, fun e => (by simp at e)⟩, h.2⟩))); rintro _ hC; obtain rfl := hC.1 rfl; try simp only [zL])
   iterate 3 first | (refine TD.val0 (v := ?_) (by simp only [zK]; rfl) rfl (by rfl) (fun w1 => ?_) ?_; rotate_left; (next => go_simp; try with_reducible rfl); try simp only [zL]) | (refine TD.load (v := ?_) (p := ?_) (Mod.refl _ _) (by simp only [zK]; rfl) rfl (by rfl) rfl ?_ (fun wq hSq => ?_) ?_; rotate_left 2; (next => simp only [zM]; try rfl); (next => have kp1q := hSq.at kp1 (fun h => h); go_simp; try with_reducible rfl); try simp only [zL])
   (refine TD.call (f := ?f32) (args := ?r32) (Mod.refl _ _) (by simp only [zK]; rfl) rfl (by rfl) (fun w1 => ?y32) ?hsp32 ?n32; (case y32 => (go_simp; (first | with_reducible rfl | (constructor <;> with_reducible rfl)))); (case hsp32 => (intro wq hSq; have kp1q := hSq.at kp1 (fun h => h); exact (budgetK_c wq).mono (fun e w' h => ⟨_, h.1, ⟨fun e => (by simp at e), fun _ => rfl⟩, h.2⟩))); rintro _ hC; obtain rfl := hC.2 rfl; try simp only [zL])
   iterate 3 (refine TD.val0 (v := ?_) (by simp only [zK]; rfl) rfl (by rfl) (fun w1 => ?_) ?_; rotate_left; (next => go_simp; try with_reducible rfl); try simp only [zL])
   refine TD.nil (fun w2 hr => ?_)
   replace kp1 := hr.mod.at kp1 (fun h => h)
   have m2 := m1.then0 hr.mod
   clear hr
   go_wp2_with fail
   go_ret
   exact ⟨by rw [HE.out]; rfl, m2⟩
end Go.Proofs.YtiaehkkkcaeaiaaGreatDoor
namespace Go.Proofs.YtiaehkkkcaeaiaaGreatDoor
open Go.RowKit
open Go.ChangeMaps (setBlock)
attribute [local go_sem ↓] wlKey ldKey stKey ldSg stSg wlTc ldTc stTc eqKey1
attribute [local go_sem] cell_blk frozen_blk kc_ext one_int one_bool one_ptr one_slice one_map kc_one kc_one0 kc_size zKey_size sgc_size sgc_ext sgc_one0 sgc_one' txr_size txr_all txr_one txr_one' txr0 txr38 txr39 txr0' txr38' txr39' zTx_size Value.cells
def BudW (w : World) : Prop := (∃ U fr, w.heap[0]? = some (.cells #[.int .i64 4, .int .i64 8] U fr)) ∧ ∃ U fr, w.heap[1]? = some (.cells #[.int .u8 2, .int .u8 3] U fr)
theorem BudW.mod0 {w w' : World} (h : BudW w) (hm : Mod (fun _ => False) w w') : BudW w' := by
 obtain ⟨⟨U, fr, h1⟩, V, gr, h2⟩ := h
 exact ⟨⟨U, fr, hm.at h1 (fun h => h)⟩, V, gr, hm.at h2 (fun h => h)⟩
def toldV (d : List UInt8) : Value := match toldP d with
 | none => .tuple #[.int .i64 (-1), .int .u64 0]
 | some (k, n) => .tuple #[.int .i64 (k : Int), u64v n]
theorem le_get {l : List UInt8} {k : Nat} (h : l.length = k) (hk : k ≤ 8) : ∃ z : UInt64, getN l k = (z.toNat, 0) ∧ z = UInt64.ofNat (leV l) := by
 refine ⟨UInt64.ofNat (leV l), ?_, rfl⟩
 have h1 := leV_lt l
 have h2 : leV l < 18446744073709551616 := by
  have : 256 ^ l.length ≤ 256 ^ 8 := Nat.pow_le_pow_right (by decide) (by omega)
  have : (256 : Nat) ^ 8 = 18446744073709551616 := by decide
  omega
 rw [getN, if_neg (by omega), ← h, List.take_length, UInt64.toNat_ofNat', Nat.mod_eq_of_lt h2]
set_option maxRecDepth 20000 in
set_option maxHeartbeats 3200000 in
theorem told_c {a : Option Addr} {l : List UInt8} {c : Nat} (w : World) (hl : SlAt uc 1 w a l) (hc : l.length ≤ c) (hn : a = none → c = 0) (hln : l.length ≤ 140737488355328) (hB : BudW w) :
  Calls Tryz.prog 72 #[.slice a l.length c] w fun e w' => e = .returned (toldV l) ∧ Mod (fun _ => False) w w' := by
 have HL := Lib.hid (And.intro hl (And.intro hc (And.intro hn (And.intro hln hB))))
 obtain ⟨ll, hll⟩ : ∃ ll, l.length = ll := ⟨_, rfl⟩
 have HLL := Lib.hid hll
 rw [hll] at hln ⊢
 clear hl hc hn hB hll
 go_enter Tryz.func72, Tryz.ntmps72
 go_wp2_with fail
 go_loopw [7] (fun s7 ws => ∃ i : Nat, i ≤ 2 ∧ s7 = .int .i64 (i : Int) ∧ Hid ((i = 0 ∨ ¬ (l.length = 5 ∧ l[0]? = some 2)) ∧ (i ≤ 1 ∨ ¬ (l.length = 9 ∧ l[0]? = some 3))) ∧ Mod (fun _ => False) w ws) (fun s7 _ => 2 - (intOf s7).toNat)
 case atStart => exact ⟨0, by decide, rfl, Lib.hid ⟨.inl rfl, .inl (by decide)⟩, Mod.refl _ _⟩
 case round =>
  obtain ⟨i, hi, rfl, HN, hm⟩ := hrel
  rcases (by omega : i = 0 ∨ i = 1 ∨ i = 2) with rfl | rfl | rfl
  ·have hu := HN
   obtain ⟨⟨U0, f0, kg0⟩, U1, f1, kg1⟩ := (HL.out.2.2.2.2.mod0 hm)
   by_cases hq : ll = 5
   ·have hqe : ((ll : Int) == 5) = true := by rw [beq_iff_eq]; omega
    have hqd : decide ((ll : Int) = 5) = true := decide_eq_true (by omega)
    have hqn : decide (ll = 5) = true := decide_eq_true hq
    obtain ⟨y, hy⟩ : ∃ y, l[0]? = some y := ⟨_, List.getElem?_eq_getElem (by have := HLL.out; omega)⟩
    obtain ⟨g, o, C, U, fr, hga, kg, he, hle⟩ := (HL.out.1.mod0 hm).block hy
    have HY := Lib.hid hy
    subst hga
    clear hy
    have he0 : C[o]? = some (.int .u8 (y.toNat : Int)) := by simpa using cellC he (j := 0) (v := .int .u8 (y.toNat : Int)) rfl
    clear he hle
    by_cases hy2 : y = 2
    ·subst hy2
     have HE : Hid (toldP l = some (0, UInt64.ofNat (leV (l.drop 1)))) := Lib.hid (by rw [toldP, if_pos ⟨by rw [HLL.out]; exact hq, HY.out⟩])
     obtain ⟨sp, hsp, hss, -, -⟩ := sl_from (P := Tryz.prog) bytesT (c := c) (k := 1) HL.out.1 (by have := HLL.out; omega) HL.out.2.1 HL.out.2.2.1
     have hdl : (l.drop 1).length = 4 := by rw [List.length_drop, HLL.out, hq]
     obtain ⟨z, hz, hz2⟩ := le_get hdl (by decide)
     have hG := fun w2 (h : SlAt uc 1 w2 sp (l.drop 1)) => getN_c sp (l.drop 1) (c - 1) 4 w2 h (by omega) (by decide)
     rw [hz, hdl] at hG
     rw [HLL.out, hq] at hsp
     have HG := Lib.hid (And.intro hG (And.intro hss hz2))
     have HM := Lib.hid hm
     subst hq
     clear hG hss hz2 hz hdl hm
     go_upto_region 4 with fail
     have Lkg := lt_size kg
     have Lkg0 := lt_size kg0
     have Lkg1 := lt_size kg1
     refine wp_pass (C := fun _ _ _ => False) (κ := fun i => [0, 0, 0, 0, 1, 0, 0, 0, 0, 0, 1, 0, 0, 1, 0, 0].getD i 0) [0, 1, 2, 3, 4, 5, 6, 7, 8, 9, 10, 11, 12, 13, 14, 15] (by kernel_rfl) (by kernel_rfl) (fun _ _ d _ _ h => by cases d <;> first | exact h | exact absurd h (hP _ _ _)) ?_
     iterate 16 first | (refine TD.val0 (v := ?_) (by simp only [zK]; rfl) rfl (by rfl) (fun w1 => ?_) ?_; rotate_left; (next => go_simp; try with_reducible rfl); try simp only [zL]) | (refine TD.load (v := ?_) (p := ?_) (Mod.refl _ _) (by simp only [zK]; rfl) rfl (by rfl) rfl ?_ (fun wq hSq => ?_) ?_; rotate_left 2; (next => simp only [zM]; try rfl); (next => have kgq := hSq.at kg (fun h => h); have kg0q := hSq.at kg0 (fun h => h); have kg1q := hSq.at kg1 (fun h => h); go_simp; try with_reducible rfl); try simp only [zL])
     refine TD.nil (fun w2 hr => ?_)
     replace kg := hr.mod.at kg (fun h => h)
     replace kg0 := hr.mod.at kg0 (fun h => h)
     replace kg1 := hr.mod.at kg1 (fun h => h)
     have HM2 := Lib.hid (HM.out.then0 hr.mod)
     clear hr
     go_upto_region 5 with fail
     have Lkg := lt_size kg
     have Lkg0 := lt_size kg0
     have Lkg1 := lt_size kg1
     refine wp_pass (C := fun _ _ v => v = .tuple #[u64v z, .int .i64 0]) (κ := fun i => [0, 0, 0, 0, 1, 2, 0, 0, 0, 0, 0].getD i 0) [0, 1, 2, 3, 4, 5, 6, 7, 8, 9, 10] (by kernel_rfl) (by kernel_rfl) (fun _ _ d _ _ h => by cases d <;> first | exact h | exact absurd h (hP _ _ _)) ?_
     (refine TD.val0 (v := ?_) (by simp only [zK]; rfl) rfl (by rfl) (fun w1 => ?_) ?_; rotate_left; (next => go_simp; try with_reducible rfl); try simp only [zL])
     (refine TD.slice (by simp only [zK]; rfl) rfl (by rfl) rfl ?hs18 ?hl18 ?hh18 ?hm18 hsp ?n18; (case hs18 => simp only [zM]; try rfl); (case hl18 => first | rfl | (simp only [Option.map_some, zM]; (try rfl))); (case hh18 => first | rfl | (simp only [Option.map_some, zM]; (try rfl))); (case hm18 => rfl); try simp only [zL])
     iterate 3 first | (refine TD.val0 (v := ?_) (by simp only [zK]; rfl) rfl (by rfl) (fun w1 => ?_) ?_; rotate_left; (next => go_simp; try with_reducible rfl); try simp only [zL]) | (refine TD.load (v := ?_) (p := ?_) (Mod.refl _ _) (by simp only [zK]; rfl) rfl (by rfl) rfl ?_ (fun wq hSq => ?_) ?_; rotate_left 2; (next => simp only [zM]; try rfl); (next => have kgq := hSq.at kg (fun h => h); have kg0q := hSq.at kg0 (fun h => h); have kg1q := hSq.at kg1 (fun h => h); go_simp; try with_reducible rfl); try simp only [zL])
     (refine TD.call (f := ?f22) (args := ?r22) (Mod.refl _ _) (by simp only [zK]; rfl) rfl (by rfl) (fun w1 => ?y22) ?hsp22 ?n22; (case y22 => (go_simp; (first | with_reducible rfl | (constructor <;> with_reducible rfl)))); (case hsp22 => (intro wq hSq; have kgq := hSq.at kg (fun h => h); have kg0q := hSq.at kg0 (fun h => h); have kg1q := hSq.at kg1 (fun h => h); exact (HG.out.1 wq (HG.out.2.1 wq ((HL.out.1.mod0 HM2.out).mod0 hSq))).mono (fun e w' h => ⟨_, h.1, rfl, h.2⟩))); rintro _ hC; subst hC; try simp only [zL])
     iterate 5 (refine TD.val0 (v := ?_) (by simp only [zK]; rfl) rfl (by rfl) (fun w1 => ?_) ?_; rotate_left; (next => go_simp; try with_reducible rfl); try simp only [zL])
     refine TD.nil (fun w3 hr => ?_)
     replace kg := hr.mod.at kg (fun h => h)
     replace kg0 := hr.mod.at kg0 (fun h => h)
     replace kg1 := hr.mod.at kg1 (fun h => h)
     have HM3 := Lib.hid (HM2.out.then0 hr.mod)
     clear hr
     go_wp2_with fail
     refine bodyPost_ret (results_tmp2 rfl _ _ _) rfl ⟨?_, HM3.out⟩
     unfold toldV
     rw [HE.out, HG.out.2.2]
     rfl
    ·have hyd : ((y.toNat : Int) == 2) = false := by
      rw [beq_eq_false_iff_ne]
      intro e
      exact hy2 (UInt8.toNat_inj.1 (by show y.toNat = 2; omega))
     have hyd2 : decide ((y.toNat : Int) = 2) = false := decide_eq_false (by have := beq_eq_false_iff_ne.1 hyd; exact this)
     have HN2 : Hid ((0 + 1 = 0 ∨ ¬ (l.length = 5 ∧ l[0]? = some 2)) ∧ (0 + 1 ≤ 1 ∨ ¬ (l.length = 9 ∧ l[0]? = some 3))) := Lib.hid (by exact ⟨.inr fun h => hy2 (by rw [HY.out] at h; exact Option.some.inj h.2), .inl (by decide)⟩)
     have HM := Lib.hid hm
     subst hq
     clear hm hu hy2
     go_upto_region 4 with fail
     have Lkg := lt_size kg
     have Lkg0 := lt_size kg0
     have Lkg1 := lt_size kg1
     refine wp_pass (C := fun _ _ _ => False) (κ := fun i => [0, 0, 0, 0, 1, 0, 0, 0, 0, 0, 1, 0, 0, 1, 0, 0].getD i 0) [0, 1, 2, 3, 4, 5, 6, 7, 8, 9, 10, 11, 12, 13, 14, 15] (by kernel_rfl) (by kernel_rfl) (fun _ _ d _ _ h => by cases d <;> first | exact h | exact absurd h (hP _ _ _)) ?_
     iterate 16 first | (refine TD.val0 (v := ?_) (by simp only [zK]; rfl) rfl (by rfl) (fun w1 => ?_) ?_; rotate_left; (next => go_simp; try with_reducible rfl); try simp only [zL]) | (refine TD.load (v := ?_) (p := ?_) (Mod.refl _ _) (by simp only [zK]; rfl) rfl (by rfl) rfl ?_ (fun wq hSq => ?_) ?_; rotate_left 2; (next => simp only [zM]; try rfl); (next => have kgq := hSq.at kg (fun h => h); have kg0q := hSq.at kg0 (fun h => h); have kg1q := hSq.at kg1 (fun h => h); go_simp; try with_reducible rfl); try simp only [zL])
     refine TD.nil (fun w2 hr => ?_)
     replace kg := hr.mod.at kg (fun h => h)
     replace kg0 := hr.mod.at kg0 (fun h => h)
     replace kg1 := hr.mod.at kg1 (fun h => h)
     have HM2 := Lib.hid (HM.out.then0 hr.mod)
     clear hr
     go_wp2_with fail
     go_roundw
     case rel => exact ⟨0 + 1, by decide, rfl, HN2, HM2.out⟩
     case measure => simp [intOf]
   ·have hqe : ((ll : Int) == 5) = false := by
     rw [beq_eq_false_iff_ne]
     omega
    have hqd : decide ((ll : Int) = 5) = false := decide_eq_false (by omega)
    have hqw : IntKind.i64.wrap 5 = 5 := by kernel_rfl
    have hqn : decide (ll = 5) = false := decide_eq_false hq
    have HN2 : Hid ((0 + 1 = 0 ∨ ¬ (l.length = 5 ∧ l[0]? = some 2)) ∧ (0 + 1 ≤ 1 ∨ ¬ (l.length = 9 ∧ l[0]? = some 3))) := Lib.hid (by exact ⟨.inr fun h => hq (by rw [← HLL.out]; exact h.1), .inl (by decide)⟩)
    have HM := Lib.hid hm
    clear hm hu hq
    go_upto_region 4 with fail
    have Lkg0 := lt_size kg0
    have Lkg1 := lt_size kg1
    refine wp_pass (C := fun _ _ _ => False) (κ := fun i => [0, 0, 0, 0, 1, 0, 0, 0, 1, 0, 0, 0, 0, 0, 0, 0].getD i 0) [0, 1, 2, 3, 4, 5, 6, 7, 8, 9, 10, 11, 12, 13, 14, 15] (by kernel_rfl) (by kernel_rfl) (fun _ _ d _ _ h => by cases d <;> first | exact h | exact absurd h (hP _ _ _)) ?_
    iterate 8 first | (refine TD.val0 (v := ?_) (by simp only [zK]; rfl) rfl (by rfl) (fun w1 => ?_) ?_; rotate_left; (next => go_simp; try with_reducible rfl); try simp only [zL]) | (refine TD.load (v := ?_) (p := ?_) (Mod.refl _ _) (by simp only [zK]; rfl) rfl (by rfl) rfl ?_ (fun wq hSq => ?_) ?_; rotate_left 2; (next => simp only [zM]; try rfl); (next => have kg0q := hSq.at kg0 (fun h => h); have kg1q := hSq.at kg1 (fun h => h); go_simp; try with_reducible rfl); try simp only [zL])
    (refine TD.pass1 (by simp only [zK]; rfl) rfl (by rfl) ?_; try simp only [zL])
    iterate 6 (refine TD.pass (by simp only [zK]; rfl) rfl (by rfl) ?_; try simp only [zL])
    (refine TD.val0 (v := ?_) (by simp only [zK]; rfl) rfl (by rfl) (fun w1 => ?_) ?_; rotate_left; (next => go_simp; try with_reducible rfl); try simp only [zL])
    refine TD.nil (fun w2 hr => ?_)
    replace kg0 := hr.mod.at kg0 (fun h => h)
    replace kg1 := hr.mod.at kg1 (fun h => h)
    have HM2 := Lib.hid (HM.out.then0 hr.mod)
    clear hr
    go_wp2_with fail
    go_roundw
    case rel => exact ⟨0 + 1, by decide, rfl, HN2, HM2.out⟩
    case measure => simp [intOf]
  ·have hu := HN
   obtain ⟨⟨U0, f0, kg0⟩, U1, f1, kg1⟩ := (HL.out.2.2.2.2.mod0 hm)
   by_cases hq : ll = 9
   ·have hqe : ((ll : Int) == 9) = true := by rw [beq_iff_eq]; omega
    have hqd : decide ((ll : Int) = 9) = true := decide_eq_true (by omega)
    have hqn : decide (ll = 9) = true := decide_eq_true hq
    obtain ⟨y, hy⟩ : ∃ y, l[0]? = some y := ⟨_, List.getElem?_eq_getElem (by have := HLL.out; omega)⟩
    obtain ⟨g, o, C, U, fr, hga, kg, he, hle⟩ := (HL.out.1.mod0 hm).block hy
    have HY := Lib.hid hy
    subst hga
    clear hy
    have he0 : C[o]? = some (.int .u8 (y.toNat : Int)) := by simpa using cellC he (j := 0) (v := .int .u8 (y.toNat : Int)) rfl
    clear he hle
    by_cases hy2 : y = 3
    ·subst hy2
     have HE : Hid (toldP l = some (1, UInt64.ofNat (leV (l.drop 1)))) := Lib.hid (by rw [toldP, if_neg (hu.out.1.resolve_left (by decide)), if_pos ⟨by rw [HLL.out]; exact hq, HY.out⟩])
     obtain ⟨sp, hsp, hss, -, -⟩ := sl_from (P := Tryz.prog) bytesT (c := c) (k := 1) HL.out.1 (by have := HLL.out; omega) HL.out.2.1 HL.out.2.2.1
     have hdl : (l.drop 1).length = 8 := by rw [List.length_drop, HLL.out, hq]
     obtain ⟨z, hz, hz2⟩ := le_get hdl (by decide)
     have hG := fun w2 (h : SlAt uc 1 w2 sp (l.drop 1)) => getN_c sp (l.drop 1) (c - 1) 8 w2 h (by omega) (by decide)
     rw [hz, hdl] at hG
     rw [HLL.out, hq] at hsp
     have HG := Lib.hid (And.intro hG (And.intro hss hz2))
     have HM := Lib.hid hm
     subst hq
     clear hG hss hz2 hz hdl hm
     go_upto_region 4 with fail
     have Lkg := lt_size kg
     have Lkg0 := lt_size kg0
     have Lkg1 := lt_size kg1
     refine wp_pass (C := fun _ _ _ => False) (κ := fun i => [0, 0, 0, 0, 1, 0, 0, 0, 0, 0, 1, 0, 0, 1, 0, 0].getD i 0) [0, 1, 2, 3, 4, 5, 6, 7, 8, 9, 10, 11, 12, 13, 14, 15] (by kernel_rfl) (by kernel_rfl) (fun _ _ d _ _ h => by cases d <;> first | exact h | exact absurd h (hP _ _ _)) ?_
     iterate 16 first | (refine TD.val0 (v := ?_) (by simp only [zK]; rfl) rfl (by rfl) (fun w1 => ?_) ?_; rotate_left; (next => go_simp; try with_reducible rfl); try simp only [zL]) | (refine TD.load (v := ?_) (p := ?_) (Mod.refl _ _) (by simp only [zK]; rfl) rfl (by rfl) rfl ?_ (fun wq hSq => ?_) ?_; rotate_left 2; (next => simp only [zM]; try rfl); (next => have kgq := hSq.at kg (fun h => h); have kg0q := hSq.at kg0 (fun h => h); have kg1q := hSq.at kg1 (fun h => h); go_simp; try with_reducible rfl); try simp only [zL])
     refine TD.nil (fun w2 hr => ?_)
     replace kg := hr.mod.at kg (fun h => h)
     replace kg0 := hr.mod.at kg0 (fun h => h)
     replace kg1 := hr.mod.at kg1 (fun h => h)
     have HM2 := Lib.hid (HM.out.then0 hr.mod)
     clear hr
     go_upto_region 5 with fail
     have Lkg := lt_size kg
     have Lkg0 := lt_size kg0
     have Lkg1 := lt_size kg1
     refine wp_pass (C := fun _ _ v => v = .tuple #[u64v z, .int .i64 0]) (κ := fun i => [0, 0, 0, 0, 1, 2, 0, 0, 0, 0, 0].getD i 0) [0, 1, 2, 3, 4, 5, 6, 7, 8, 9, 10] (by kernel_rfl) (by kernel_rfl) (fun _ _ d _ _ h => by cases d <;> first | exact h | exact absurd h (hP _ _ _)) ?_
     (refine TD.val0 (v := ?_) (by simp only [zK]; rfl) rfl (by rfl) (fun w1 => ?_) ?_; rotate_left; (next => go_simp; try with_reducible rfl); try simp only [zL])
     (refine TD.slice (by simp only [zK]; rfl) rfl (by rfl) rfl ?hs77 ?hl77 ?hh77 ?hm77 hsp ?n77; (case hs77 => simp only [zM]; try rfl); (case hl77 => first | rfl | (simp only [Option.map_some, zM]; (try rfl))); (case hh77 => first | rfl | (simp only [Option.map_some, zM]; (try rfl))); (case hm77 => rfl); try simp only [zL])
     iterate 3 first | (refine TD.val0 (v := ?_) (by simp only [zK]; rfl) rfl (by rfl) (fun w1 => ?_) ?_; rotate_left; (next => go_simp; try with_reducible rfl); try simp only [zL]) | (refine TD.load (v := ?_) (p := ?_) (Mod.refl _ _) (by simp only [zK]; rfl) rfl (by rfl) rfl ?_ (fun wq hSq => ?_) ?_; rotate_left 2; (next => simp only [zM]; try rfl); (next => have kgq := hSq.at kg (fun h => h); have kg0q := hSq.at kg0 (fun h => h); have kg1q := hSq.at kg1 (fun h => h); go_simp; try with_reducible rfl); try simp only [zL])
     (refine TD.call (f := ?f81) (args := ?r81) (Mod.refl _ _) (by simp only [zK]; rfl) rfl (by rfl) (fun w1 => ?y81) ?hsp81 ?n81; (case y81 => (go_simp; (first | with_reducible rfl | (constructor <;> with_reducible rfl)))); (case hsp81 => (intro wq hSq; have kgq := hSq.at kg (fun h => h); have kg0q := hSq.at kg0 (fun h => h); have kg1q := hSq.at kg1 (fun h => h); exact (HG.out.1 wq (HG.out.2.1 wq ((HL.out.1.mod0 HM2.out).mod0 hSq))).mono (fun e w' h => ⟨_, h.1, rfl, h.2⟩))); rintro _ hC; subst hC; try simp only [zL])
     iterate 5 (refine TD.val0 (v := ?_) (by simp only [zK]; rfl) rfl (by rfl) (fun w1 => ?_) ?_; rotate_left; (next => go_simp; try with_reducible rfl); try simp only [zL])
     refine TD.nil (fun w3 hr => ?_)
     replace kg := hr.mod.at kg (fun h => h)
     replace kg0 := hr.mod.at kg0 (fun h => h)
     replace kg1 := hr.mod.at kg1 (fun h => h)
     have HM3 := Lib.hid (HM2.out.then0 hr.mod)
     clear hr
     go_wp2_with fail
     refine bodyPost_ret (results_tmp2 rfl _ _ _) rfl ⟨?_, HM3.out⟩
     unfold toldV
     rw [HE.out, HG.out.2.2]
     rfl
    ·have hyd : ((y.toNat : Int) == 3) = false := by
      rw [beq_eq_false_iff_ne]
      intro e
      exact hy2 (UInt8.toNat_inj.1 (by show y.toNat = 3; omega))
     have hyd2 : decide ((y.toNat : Int) = 3) = false := decide_eq_false (by have := beq_eq_false_iff_ne.1 hyd; exact this)
     have HN2 : Hid ((1 + 1 = 0 ∨ ¬ (l.length = 5 ∧ l[0]? = some 2)) ∧ (1 + 1 ≤ 1 ∨ ¬ (l.length = 9 ∧ l[0]? = some 3))) := Lib.hid (by exact ⟨.inr (hu.out.1.resolve_left (by decide)), .inr fun h => hy2 (by rw [HY.out] at h; exact Option.some.inj h.2)⟩)
     have HM := Lib.hid hm
     subst hq
     clear hm hu hy2
     go_upto_region 4 with fail
     have Lkg := lt_size kg
     have Lkg0 := lt_size kg0
     have Lkg1 := lt_size kg1
     refine wp_pass (C := fun _ _ _ => False) (κ := fun i => [0, 0, 0, 0, 1, 0, 0, 0, 0, 0, 1, 0, 0, 1, 0, 0].getD i 0) [0, 1, 2, 3, 4, 5, 6, 7, 8, 9, 10, 11, 12, 13, 14, 15] (by kernel_rfl) (by kernel_rfl) (fun _ _ d _ _ h => by cases d <;> first | exact h | exact absurd h (hP _ _ _)) ?_
     iterate 16 first | (refine TD.val0 (v := ?_) (by simp only [zK]; rfl) rfl (by rfl) (fun w1 => ?_) ?_; rotate_left; (next => go_simp; try with_reducible rfl); try simp only [zL]) | (refine TD.load (v := ?_) (p := ?_) (Mod.refl _ _) (by simp only [zK]; rfl) rfl (by rfl) rfl ?_ (fun wq hSq => ?_) ?_; rotate_left 2; (next => simp only [zM]; try rfl); (next => have kgq := hSq.at kg (fun h => h); have kg0q := hSq.at kg0 (fun h => h); have kg1q := hSq.at kg1 (fun h => h); go_simp; try with_reducible rfl); try simp only [zL])
     refine TD.nil (fun w2 hr => ?_)
     replace kg := hr.mod.at kg (fun h => h)
     replace kg0 := hr.mod.at kg0 (fun h => h)
     replace kg1 := hr.mod.at kg1 (fun h => h)
     have HM2 := Lib.hid (HM.out.then0 hr.mod)
     clear hr
     go_wp2_with fail
     go_roundw
     case rel => exact ⟨1 + 1, by decide, rfl, HN2, HM2.out⟩
     case measure => simp [intOf]
   ·have hqe : ((ll : Int) == 9) = false := by
     rw [beq_eq_false_iff_ne]
     omega
    have hqd : decide ((ll : Int) = 9) = false := decide_eq_false (by omega)
    have hqw : IntKind.i64.wrap 9 = 9 := by kernel_rfl
    have hqn : decide (ll = 9) = false := decide_eq_false hq
    have HN2 : Hid ((1 + 1 = 0 ∨ ¬ (l.length = 5 ∧ l[0]? = some 2)) ∧ (1 + 1 ≤ 1 ∨ ¬ (l.length = 9 ∧ l[0]? = some 3))) := Lib.hid (by exact ⟨.inr (hu.out.1.resolve_left (by decide)), .inr fun h => hq (by rw [← HLL.out]; exact h.1)⟩)
    have HM := Lib.hid hm
    clear hm hu hq
    go_upto_region 4 with fail
    have Lkg0 := lt_size kg0
    have Lkg1 := lt_size kg1
    refine wp_pass (C := fun _ _ _ => False) (κ := fun i => [0, 0, 0, 0, 1, 0, 0, 0, 1, 0, 0, 0, 0, 0, 0, 0].getD i 0) [0, 1, 2, 3, 4, 5, 6, 7, 8, 9, 10, 11, 12, 13, 14, 15] (by kernel_rfl) (by kernel_rfl) (fun _ _ d _ _ h => by cases d <;> first | exact h | exact absurd h (hP _ _ _)) ?_
    iterate 8 first | (refine TD.val0 (v := ?_) (by simp only [zK]; rfl) rfl (by rfl) (fun w1 => ?_) ?_; rotate_left; (next => go_simp; try with_reducible rfl); try simp only [zL]) | (refine TD.load (v := ?_) (p := ?_) (Mod.refl _ _) (by simp only [zK]; rfl) rfl (by rfl) rfl ?_ (fun wq hSq => ?_) ?_; rotate_left 2; (next => simp only [zM]; try rfl); (next => have kg0q := hSq.at kg0 (fun h => h); have kg1q := hSq.at kg1 (fun h => h); go_simp; try with_reducible rfl); try simp only [zL])
    (refine TD.pass1 (by simp only [zK]; rfl) rfl (by rfl) ?_; try simp only [zL])
    iterate 6 (refine TD.pass (by simp only [zK]; rfl) rfl (by rfl) ?_; try simp only [zL])
    (refine TD.val0 (v := ?_) (by simp only [zK]; rfl) rfl (by rfl) (fun w1 => ?_) ?_; rotate_left; (next => go_simp; try with_reducible rfl); try simp only [zL])
    refine TD.nil (fun w2 hr => ?_)
    replace kg0 := hr.mod.at kg0 (fun h => h)
    replace kg1 := hr.mod.at kg1 (fun h => h)
    have HM2 := Lib.hid (HM.out.then0 hr.mod)
    clear hr
    go_wp2_with fail
    go_roundw
    case rel => exact ⟨1 + 1, by decide, rfl, HN2, HM2.out⟩
    case measure => simp [intOf]
  ·have HE : Hid (toldP l = none) := Lib.hid (by rw [toldP, if_neg (HN.out.1.resolve_left (by decide)), if_neg (HN.out.2.resolve_left (by decide))])
   have HM := Lib.hid hm
   clear hm
   go_wp2_with fail
   refine bodyPost_ret (results_tmp2 rfl _ _ _) rfl ⟨?_, HM.out⟩
   unfold toldV
   rw [HE.out]
   rfl
end Go.Proofs.YtiaehkkkcaeaiaaGreatDoor
namespace Go.Proofs.YtiaehkkkcaeaiaaGreatDoor
open Go.ChangeShapes Go.WideShapes Go.ChangeAt Go.WideMaps Go.WideElems Go.RowKit
def LD : List (String × DataW Unit) := [("ferryhouse/budgets.long", Rows.laid_ferryhouse_budgets_long), ("ferryhouse/budgets.tags", Rows.laid_ferryhouse_budgets_tags)]
theorem door_met (os : Os) (args : Array Value) : laidMetH Tryz.prog LD ((World.doorLaid Tryz.prog 400 os).forCall (fun _ _ => 0) ⟨#[], args, []⟩).memory :=
 laidMetH_of_parts3 (fuel := 8) (laidMet_of_run' 8 (by kernel_rfl) (by kernel_rfl)) (by kernel_rfl) (by kernel_rfl)
theorem LD_eq : LD = [("ferryhouse/budgets.long", Lib.tabData .i64 [4, 8]), ("ferryhouse/budgets.tags", Lib.tabData .u8 [2, 3])] := by rfl
theorem var_block {P : Program} {w : World} {name : String} {g : Nat} {cs : Array Value} (hg : P.globalNamed name = some g) (h : w.var? P name = some cs) : ∃ U fr, w.heap[g]? = some (.cells cs U fr) := by
 unfold World.var? at h
 rw [hg] at h
 simp only [Option.bind_some] at h
 split at h
 ·rename_i C U fr hb
  cases h
  exact ⟨U, fr, hb⟩
 ·cases h
theorem tabW_of_laid {W : World} (h : laidMetH Tryz.prog LD W) : BudW W := by
 rw [MakeChecks.laidMetH_plain _ _ _ (by kernel_rfl), LD_eq] at h
 have hg : Tryz.prog.globalNamed "ferryhouse/budgets.long" = some 0 := by kernel_rfl
 have hg1 : Tryz.prog.globalNamed "ferryhouse/budgets.tags" = some 1 := by kernel_rfl
 have ht := Lib.tabIs_of_head (g := 0) (n := 2) hg (by kernel_rfl) Tryz.underlying179 Tryz.underlying3 (by kernel_rfl) (by kernel_rfl) h
 have ht1 := Lib.tabIs_of_head (g := 1) (n := 2) hg1 (by kernel_rfl) Tryz.underlying180 Tryz.underlying5 (by kernel_rfl) (by kernel_rfl) (laidMet.tail h)
 exact ⟨var_block hg ht, var_block hg1 ht1⟩
end Go.Proofs.YtiaehkkkcaeaiaaGreatDoor
namespace Go.Proofs.YtiaehkkkcaeaiaaGreatDoor
open Go.RowKit
open Go.ChangeShapes Go.WideShapes Go.ChangeAt
theorem okWide_adr {P : Program} {w : World} {r : Reach} {base : Nat} {t e : TypeId} {a : Option Addr} {n c : Nat} (ht : P.underlying t = some (.slice e)) (h : Value.okWide P w r base t (.slice a n c)) : (a = none → c = 0) ∧ n ≤ c ∧ ∀ x, a = some x → x.block < w.heap.size := by
 simp only [Value.okWide, ht, Cell.okWide] at h
 unfold Cell.ok at h
 rw [ht] at h
 cases a with
 | none =>
  cases n with
  | zero =>
   cases c with
   | zero => exact ⟨fun _ => rfl, Nat.le_refl _, fun x e => (by cases e)⟩
   | succ c => exact h.elim
  | succ n => exact h.elim
 | some x =>
  obtain ⟨h1, _, _, _, row, cells, hs, _⟩ := h
  refine ⟨fun e => (by cases e), h1, fun y e => ?_⟩
  cases e
  unfold World.shape? at hs
  split at hs
  ·rename_i hk
   exact lt_size hk
  ·cases hs
theorem bysC_reads {H : Type} {enc : TypeId × Value → H} : Reads enc Tryz.prog 22 (slv (α := UInt8)) (SlOk uc 1 1 (fun _ _ => True)) :=
 slice_reads Tryz.underlying22 (by kernel_rfl) (by kernel_rfl) (by omega) u8_reads 0
end Go.Proofs.YtiaehkkkcaeaiaaGreatDoor
namespace Go.Proofs.YtiaehkkkcaeaiaaGreatDoor
open Go.RowKit
open Go.ChangeMaps (setBlock)
attribute [local go_sem] cell_blk frozen_blk one_int one_bool one_ptr one_slice one_map Value.cells
def Tk {α : Type} (e : Nat) (res : PR α) (x : α) (k' e' : Nat) : Prop := (e = 0 → match res with | .ok (y, k2) => x = y ∧ k' = k2 ∧ e' = 0 | .error n => e' = n) ∧ (e ≠ 0 → e' = e)
theorem Tk.bad {α : Type} {e : Nat} {res : PR α} {x : α} {k' : Nat} (h : e ≠ 0) : Tk e res x k' e := ⟨fun h0 => absurd h0 h, fun _ => rfl⟩
end Go.Proofs.YtiaehkkkcaeaiaaGreatDoor
namespace Go.Proofs.YtiaehkkkcaeaiaaGreatDoor
open Go.RowKit
open Go.ChangeMaps (setBlock)
attribute [local go_sem] cell_blk frozen_blk one_int one_bool one_ptr one_slice one_map Value.cells
attribute [local go_sem ↓] wlKey ldKey stKey wlHs stHs
attribute [local go_sem] kc_ext kc_one kc_one0 kc_size zKey_size one_slice
theorem setRow_blk {w : World} {g : Nat} {old cs : Array Value} {t : TypeId} (hg : w.heap[g]? = some (.cells old t (0, 0))) : w.setRow g cs = setBlock w g (.cells cs t (0, 0)) := by
 unfold World.setRow setBlock
 congr 1
 apply Array.ext_getElem?
 intro i
 rw [Array.getElem?_modify, Array.getElem?_setIfInBounds]
 by_cases h : g = i
 ·subst h
  rw [if_pos rfl, if_pos rfl, hg, if_pos (lt_size hg)]
  rfl
 ·rw [if_neg h, if_neg h]
theorem eff_copy {P : Program} {ops : Array Oper} {Q : Exit → Act → World → Prop} {i : Nat} {a : Act} {o : Oper} {K : Act → World → Prop} {w w' : World} {t t2 : TypeId} {s x : Operand} {v u v' : Value} (ho : ops[i]? = some o) (hw : Region.wanted o (yielded ops a.tmps) = true)
  (hop : o.op = .call { callee := .builtin .copy, args := #[s, x], argTypes := #[t, t2] }) (hs : a.eval s = v) (hx : a.eval x = u) (hr : (Builtin.copy_ #[t, t2] o.type #[v, u]).run P w = .ok v' w')
  (h : K (a.put o.dst v') w') : wpOp P ops Q i K a w :=
 eff_value ho hw (by subst hs; subst hx; simp [execOp, hop, resolve, invoke, builtin, hr]) h
end Go.Proofs.YtiaehkkkcaeaiaaGreatDoor
namespace Go.Proofs.YtiaehkkkcaeaiaaGreatDoor
section
variable {P : Program} {ops : Array Oper} {Q : Exit → Act → World → Prop} {T0 : Nat → Prop} {w0 : World} {κ : Nat → Nat} {υ : Nat → List Tmp}
theorem TG.soundE (hsel : ∀ (j : Nat) (p : Oper) cs b, ops[j]? = some p → p.op ≠ .select cs b)
  (hback : ∀ i o, ops[i]? = some o → ∀ e ∈ o.after, Region.binds .any e = true → e.on < i) {rest : List Nat} (hrest : pairsOk ops κ rest = true) :
  ∀ (fuel : Nat) (l : List Nat) (listed : Array Bool) (a : Act) (B : Bx) (K : Land) (w : World), l.length = fuel → (l ++ rest).Nodup → (∀ i ∈ l ++ rest, i < ops.size) → gPairsOk ops κ υ l = true →
   (∀ x ∈ l, ∀ y ∈ rest, x ≠ y ∧ (behindB ops x).testBit y = true) → Listing ops listed (l ++ rest) → Closed K →
   RG T0 w0 B K w → TG P ops (fun _ a w => TE P ops Q κ rest a w) T0 w0 κ υ l a B K → wpAny P .any ops Q (rest.length + fuel) listed a w := by
 intro fuel
 induction fuel with
 | zero =>
  intro l listed a B K w hl hn hlt hp hb hL hK hR h
  obtain rfl : l = [] := List.length_eq_zero_iff.1 hl
  have hte : TE P ops Q κ rest a w := by
   cases h with | nil h => exact h w hR
  exact TE.sound hsel hback _ rest listed a w rfl (by simpa using hn) (by simpa using hlt) hrest (by simpa using hL) hte
 | succ fuel ih =>
  intro l listed a B K w hl hn hlt hp hb hL hK hR h
  refine ⟨fun hnil => ?_, fun i hi => ?_⟩
  ·exfalso
   match l, hl with
   | i :: l', _ => exact exists_ready hback hL hlt i i (by simp) (Nat.le_refl _) hnil
  ·obtain ⟨hun, o, ho, hall⟩ := mem_ready.1 hi
   have hil : i ∈ l := by
    rcases List.mem_append.1 ((hL.mem i).2 hun) with hin | hin
    ·exact hin
    ·exfalso
     clear h
     match l, hl with
     | x :: l', _ =>
      have hxy := hb x (by simp) i hin
      obtain ⟨_, hpth⟩ := (behindB_path hxy.2).resolve_left (fun e => hxy.1 e.symm)
      have hl1 := path_listed hL.closed _ x i o ho hall hpth
      have hl2 := getD_false_of_true ((hL.mem x).1 (by simp))
      rw [hl1] at hl2
      cases hl2
   obtain ⟨pre, post, rfl⟩ := List.append_of_mem hil
   obtain ⟨h1, h2⟩ := gPairsOk_split hp
   have hf := TG.front hsel ho pre a B K hK ⟨w, hR⟩ (fun x hx => by
    have := h1 x hx
    unfold gPairOk at this
    have hxo : ops[x]? = some (ops[x]'(hlt x (by simp [hx]))) := Array.getElem?_eq_getElem _
    rw [hxo, ho] at this
    simp only [Bool.or_eq_true, Bool.and_eq_true] at this
    rcases this with hpth | hok
    ·obtain ⟨_, hpth⟩ := (behindB_path hpth.2).resolve_left (fun e => by have := hpth.1; simp [e] at this)
     have hl1 := path_listed hL.closed _ x i o ho hall hpth
     have hl2 := getD_false_of_true ((hL.mem x).1 (by simp [hx]))
     rw [hl1] at hl2
     cases hl2
    ·exact ⟨_, hxo, hok.1, hok.2⟩) h
   have hl' : (pre ++ post).length = fuel := by simp at hl ⊢; omega
   have hsub : ((pre ++ post) ++ rest).Sublist ((pre ++ i :: post) ++ rest) := List.Sublist.append_right (List.Sublist.append_left (List.sublist_cons_self _ _) _) _
   have hn' : ((pre ++ post) ++ rest).Nodup := hn.sublist hsub
   have hlt' : ∀ j ∈ (pre ++ post) ++ rest, j < ops.size := fun j hj => hlt j (hsub.subset hj)
   have hb' : ∀ x ∈ pre ++ post, ∀ y ∈ rest, x ≠ y ∧ (behindB ops x).testBit y = true := fun x hx => hb x ((List.Sublist.append_left (List.sublist_cons_self i post) pre).subset hx)
   have hL' : Listing ops (listed.setIfInBounds i true) ((pre ++ post) ++ rest) := by
    have := Listing.next (pre := pre) (post := post ++ rest) (i := i) (by simpa using hL) (by simpa using hn) ho hall
    simpa using this
   rcases hf.kinds with ko | ko | ko | ko
   ·obtain ⟨v, hy, ht⟩ := hf.inv_val ko ho
    obtain ⟨T, hRT⟩ := hR
    exact YieldsIf.wpOp ho hy hRT.mod (ih _ _ _ _ _ _ hl' hn' hlt' h2 hb' hL' hK ⟨T, hRT⟩ ht)
   ·obtain ⟨hw, d, T, z, V, hd, hr, ht⟩ := hf.inv_alloc ko ho
    obtain ⟨U, hRT⟩ := hR
    have hR' : RG T0 w0 (B.set w.heap.size ⟨z, T, d⟩) K (w.alloc (.cells z T)) := ⟨U, hRT.alloc hK z T d⟩
    unfold wpOp
    simp only [ho, hw, if_true]
    refine .inl ?_
    unfold Oper.wp
    rw [hr w]
    exact ih _ _ _ _ _ _ hl' hn' hlt' h2 hb' hL' hK hR' (ht _ hRT.none ⟨_, hR'⟩)
   ·obtain ⟨hw, hd, d, T, y, p, b, hop, hev, hbb, htag, hr, ht⟩ := hf.inv_store ko ho
    obtain ⟨U, hRT⟩ := hR
    unfold wpOp
    simp only [ho, hw, if_true]
    refine .inl ?_
    unfold Oper.wp
    rw [hr w (hRT.box p b hbb).2.2]
    simp only [Oper.upon, hd]
    exact ih _ _ _ _ _ _ hl' hn' hlt' h2 hb' hL' hK ⟨U, hRT.store hK hbb _⟩ ht
   ·obtain ⟨hw, K', hE, ht⟩ := hf.inv_eff ko ho
    obtain ⟨U, hRT⟩ := hR
    exact (hE.step hRT).wp ho hw fun v w' hv => ih _ _ _ _ _ _ hl' hn' hlt' h2 hb' hL' (hE.cl v) hv (ht v ⟨w', hv⟩)
def eRegOk (ops : Array Oper) (κ : Nat → Nat) (υ : Nat → List Tmp) (l rest : List Nat) : Bool :=
 Region.noSelect ops && ((List.range ops.size).all fun i => match ops[i]? with | none => false | some o => o.after.all fun e => !Region.binds .any e || decide (e.on < i)) &&
 (decide (rest.length + l.length = ops.size) && ((l ++ rest).all (fun i => decide (i < ops.size)) && ((List.range ops.size).all fun i => (l ++ rest).contains i))) &&
 (decide (l ++ rest).Nodup && gPairsOk ops κ υ l && pairsOk ops κ rest && l.all (fun x => rest.all fun y => !(x == y) && (behindB ops x).testBit y))
theorem e_any {a : Act} {w1 : World} {K : Land} (l rest : List Nat) (hok : eRegOk ops κ υ l rest = true) (hK : Closed K) (hR : RG T0 w0 Bx.nil K w1)
  (h : TG P ops (fun _ a w => TE P ops Q κ rest a w) T0 w0 κ υ l a Bx.nil K) : wpAny P .any ops Q ops.size (Array.replicate ops.size false) a w1 := by
 simp only [eRegOk, Bool.and_eq_true, List.all_eq_true, decide_eq_true_eq] at hok
 obtain ⟨⟨⟨h1, h2⟩, h3, h4, h5⟩, ⟨⟨hnd, h6⟩, h7⟩, h8⟩ := hok
 have hback : ∀ i o, ops[i]? = some o → ∀ e ∈ o.after, Region.binds .any e = true → e.on < i := fun i o ho e he hb => by
  have := h2 i (List.mem_range.2 (Array.getElem?_eq_some_iff.1 ho).1)
  rw [ho] at this
  have := Array.all_eq_true_iff_forall_mem.1 this e he
  simpa [hb] using this
 rw [← h3]
 refine TG.soundE (Region.noSelect_spec h1) hback h7 _ l _ a _ _ _ rfl hnd h4 h6 (fun x hx y hy => ?_) ?_ hK hR h
 ·have := h8 x hx y hy
  exact ⟨by simpa using this.1, this.2⟩
 ·rw [h3]
  refine ⟨by simp, fun i => ?_, fun i o hi => ?_⟩
  ·constructor
   ·intro hi
    have := h4 i hi
    simp [this]
   ·intro hi
    have : i < ops.size := by
     rcases Nat.lt_or_ge i ops.size with h' | h'
     ·exact h'
     ·simp [Nat.not_lt.2 h'] at hi
    simpa using h5 i (List.mem_range.2 this)
  ·exfalso
   have : (Array.replicate ops.size false).getD i false = false := by
    by_cases h' : i < ops.size
    ·simp [h']
    ·simp [h']
   rw [this] at hi
   cases hi
theorem wp_epass {id : Nat} {a : Act} {w : World} {K : Land} (l rest : List Nat) (hm : P.follows .mixedOrders = true) (hok : eRegOk ops κ υ l rest = true) (hK : Closed K) (hk : K T0 w) (hlt : ∀ i, T0 i → i < w.heap.size)
  (h : TG P ops (fun _ a w => TE P ops Q κ rest a w) T0 w κ υ l a Bx.nil K) : (Code.region id ops true).wp P Q a w :=
 wp_region_any hm (e_any l rest hok hK ⟨T0, hK T0 w w.drew hk (Mod.refl _ w).drew, hlt, fun _ _ h => h, (Mod.refl _ w).drew, fun _ _ hh => by cases hh⟩ h)
theorem TG.appK {i : Nat} {r : List Nat} {a : Act} {B : Bx} {K : Land} {o : Oper} {x y : Operand} {X Y : Value} {ts : Array TypeId} (K' : Value → Land) (hcl : ∀ v, Good (K' v)) (ho : ops[i]? = some o) (hk : κ i = 6) (hw : Region.wanted o (yielded ops a.tmps) = true)
  (hop : o.op = .call { callee := .builtin .append, args := #[x, y], argTypes := ts }) (hx : a.eval x = X) (hy : a.eval y = Y)
  (hr : ∀ T w, K T w → (∀ i, T i → i < w.heap.size) → Mod T0 w0 w → UB T (υ i) B w → ∃ v w', (Builtin.append_ ts o.type #[X, Y]).run P w = .ok v w' ∧ Mod T w w' ∧ K' v (Grow T w w') w')
  (h : ∀ v, Inh T0 w0 B (K' v) → TG P ops Q T0 w0 κ υ r (a.put o.dst v) B (K' v)) : TG P ops Q T0 w0 κ υ (i :: r) a B K := by
 refine TG.eff' K' ho hk hw (fun v => (hcl v).cl) (fun T w k1 k2 k3 k4 => .inl ?_) h
 obtain ⟨v, w', h1, h2⟩ := hr T w k1 k2 k3 k4
 refine ⟨v, w', ?_, h2⟩
 subst hx
 subst hy
 simp [execOp, hop, resolve, invoke, builtin, h1]
end
end Go.Proofs.YtiaehkkkcaeaiaaGreatDoor
namespace Go.Proofs.YtiaehkkkcaeaiaaGreatDoor
open Go.RowKit
open Go.ChangeMaps (setBlock)
attribute [local go_sem] cell_blk frozen_blk one_int one_bool one_ptr one_slice one_map Value.cells
attribute [local go_sem ↓] wlKey ldKey stKey wlMsg ldMsg stMsg
attribute [local go_sem] kc_ext kc_one kc_one0 kc_size zKey_size one_slice mgx_size mgx_ext mgx_one mgx_one0
attribute [local go_sem ↓] wlHs stHs wlIn ldIn stIn wlLo ldLo stLo
attribute [local go_sem] zMsg_size zMsg_all zMsg_all0 mg0 mg1 mg2 mg3 mg4 mg37 mg38
theorem mg37' {v0 : Bool} {h0 h1 h2 : UInt8} {ka : Option Addr} {kn kc' : Nat} {rc : Key} {ia : Option Addr} {n1 c1 : Nat} {la : Option Addr} {n2 c2 : Nat} (h : 37 < (mgx v0 h0 h1 h2 ka kn kc' rc ia n1 c1 la n2 c2).size) : (mgx v0 h0 h1 h2 ka kn kc' rc ia n1 c1 la n2 c2)[37] = .slice ia n1 c1 := at_get (mg37 ..) h
theorem mg38' {v0 : Bool} {h0 h1 h2 : UInt8} {ka : Option Addr} {kn kc' : Nat} {rc : Key} {ia : Option Addr} {n1 c1 : Nat} {la : Option Addr} {n2 c2 : Nat} (h : 38 < (mgx v0 h0 h1 h2 ka kn kc' rc ia n1 c1 la n2 c2).size) : (mgx v0 h0 h1 h2 ka kn kc' rc ia n1 c1 la n2 c2)[38] = .slice la n2 c2 := at_get (mg38 ..) h
attribute [local go_sem] mg37' mg38'
theorem inr_sz (x : InR) : (inr x).size = 3 := rfl
theorem inr_ex (x : InR) : (inr x).extract 0 3 = inr x := rfl
theorem inr1 (x : InR) : (inr x)[1]? = some (.slice x.a.a x.a.l.length x.a.c) := rfl
theorem inr2 (x : InR) : (inr x)[2]? = some (.slice x.d.a x.d.l.length x.d.c) := rfl
theorem lor32 (x : LoR) : (lor x)[32]? = some (.slice x.w.a x.w.l.length x.w.c) := kx_get x.t _ 0
theorem lor33 (x : LoR) : (lor x)[33]? = some (.slice x.r.a x.r.l.length x.r.c) := kx_get x.t _ 1
theorem zIn_sz : zIn.size = 3 := rfl
theorem lor_sz (x : LoR) : (lor x).size = 34 := kx_size _ _
theorem lor_al (x : LoR) : (lor x).all (·.oneCell') = true := kx_one _ _ rfl
theorem lor_al0 (x : LoR) : (lor x).all (·.oneCell') 0 34 = true := all_of (lor_sz x) (lor_al x)
attribute [local go_sem] inr_sz inr_ex zIn_sz lor_sz lor_al lor_al0 inr1 inr2 lor32 lor33
end Go.Proofs.YtiaehkkkcaeaiaaGreatDoor
namespace Go.Proofs.YtiaehkkkcaeaiaaGreatDoor
open Go.RowKit
open Go.ChangeMaps (setBlock)
attribute [local go_sem] cell_blk frozen_blk one_int one_bool one_ptr one_slice one_map Value.cells
theorem run_copyN {P : Program} (w : World) (dT sT ty elem : TypeId) (g o dLen dCap : Nat) (a : Addr) (sLen sCap : Nat) (cur : Array Value) (t : TypeId) (cs : List Value) {k m : Nat}
  (hu : P.underlying dT = some (.slice elem)) (hs : (P.info? elem).map (·.size) = some k) (hm : m = Nat.min sLen dLen)
  (hg : w.heap[g]? = some (.cells cur t (0, 0))) (hn : cs.length = m * k)
  (hsrc : ∀ j v, cs[j]? = some v → w.cell? (a.add j) = some v) (hfit : o + cs.length ≤ cur.size) (h1 : ∀ v ∈ cs, v.oneCell' = true) :
  (Builtin.copy_ #[dT, sT] ty #[.slice (some ⟨g, o, none⟩) dLen dCap, .slice (some a) sLen sCap]).run P w =
   .ok (goInt m) (w.setRow g (cur.toList.take o ++ cs ++ cur.toList.drop (o + cs.length)).toArray) := by
 have hl := run_loadCells_list (P := P) w a cs hsrc
 have hst := run_storeCells_at P g o t cs 0 cur w hg (by simpa using hfit) h1
 cases hq : P.info? elem with
 | none => simp [hq] at hs
 | some i =>
  have hi : i.size = k := by simpa [hq] using hs
  simp [Builtin.copy_, run_underlying hu, Builtin.lenOf, Builtin.firstCells, sizeOf, typeInfo, hq, hi, ← hm, ← hn, hl, hst]
section
variable {α : Type} {f : α → Array Value} {n B : Nat} {P : Program} {T E : TypeId}
theorem sl_cells (hT : ElT P T E f n B) {w : World} {ad : Addr} {q : List α} (hq : SlAt f n w (some ad) q) : ∀ j u, (cellsOf f q)[j]? = some u → w.cell? (ad.add j) = some u := fun j u hu => by
 have hj : j < (cellsOf f q).length := (List.getElem?_eq_some_iff.1 hu).1
 rw [cellsOf_len hT.size q] at hj
 have hn := hT.pos
 have hd : j / n < q.length := Nat.div_lt_of_lt_mul (by rw [Nat.mul_comm]; exact hj)
 obtain ⟨x, hx⟩ : ∃ x, q[j / n]? = some x := ⟨_, List.getElem?_eq_getElem hd⟩
 obtain ⟨b, o, C, U, fr, ha, hb, he, hsz⟩ := hq.block hx
 cases ha
 have hjm : j / n * n + j % n = j := by rw [Nat.mul_comm]; exact Nat.div_add_mod j n
 have hlt := Nat.mod_lt j hn
 have hget := cellsOf_get hT.size q (j / n) x hx
 have hv : (f x)[j % n]? = some u := by
  have h1 := congrArg (fun L => L[j % n]?) hget
  simp only [List.getElem?_take, List.getElem?_drop, hlt, if_true, hjm] at h1
  rw [hu] at h1
  simpa using h1.symm
 have hcell := cell_in hb he hv
 have hadd : (⟨b, o, none⟩ : Addr).add j = ⟨b, o + j / n * n + j % n, none⟩ := by
  rw [Nat.add_assoc, hjm]
  unfold Addr.add
  split <;> simp_all
 rw [hadd]
 exact hcell
theorem copyT (hT : ElT P T E f n B) {w : World} {q : List α} {ad : Addr} (hq : SlAt f n w (some ad) q) {p cap c : Nat} {cur : Array Value} {ty : TypeId} (hp : w.heap[p]? = some (.cells cur E (0, 0))) (hc : cur.size = q.length * n) :
  (Builtin.copy_ #[T, T] ty #[.slice (some ⟨p, 0, none⟩) q.length cap, .slice (some ad) q.length c]).run P w = .ok (goInt q.length) (setBlock w p (.cells (cellsOf f q).toArray E (0, 0))) := by
 obtain ⟨i0, z, hi, hz, hz1, hz2, hz3⟩ := hT.info
 have hlen := cellsOf_len hT.size q
 have h := run_copyN (P := P) (m := q.length) (k := n) w T T ty E p 0 q.length cap ad q.length c cur E (cellsOf f q) hT.u (by rw [hi]; exact congrArg some hz1) (Nat.min_self _).symm hp hlen (sl_cells hT hq) (by rw [hlen, hc]; omega) (fun u hu => by
  obtain ⟨x, _, hx⟩ := List.mem_flatMap.1 hu
  exact hT.one x u hx)
 have e : (List.take 0 cur.toList ++ cellsOf f q ++ List.drop (0 + (cellsOf f q).length) cur.toList).toArray = (cellsOf f q).toArray := by
  rw [List.take_zero, List.nil_append, List.drop_of_length_le (by rw [Array.length_toList, hc, hlen]; omega), List.append_nil]
 rw [h, setRow_blk hp, e]
theorem copyT0 (hT : ElT P T E f n B) (w : World) {p m cap : Nat} {ty : TypeId} : (Builtin.copy_ #[T, T] ty #[.slice (some ⟨p, 0, none⟩) m cap, .slice none 0 0]).run P w = .ok (goInt 0) w := by
 obtain ⟨i0, z, hi, hz, hz1, hz2, hz3⟩ := hT.info
 exact run_copy_nil (P := P) w T T ty E ⟨p, 0, none⟩ m cap hT.u (by rw [hi]; rfl)
theorem makeT (hT : ElT P T E f n B) (m : Nat) (hm : m * B ≤ 281474976710656) (hm2 : m ≤ 9223372036854775807) : ∃ cur : Array Value, cur.size = m * n ∧ ∀ w : World, (Instr.makeSlice T (.int .i64 (m : Int)) (.int .i64 (m : Int))).run P w = .ok (.slice (some ⟨w.heap.size, 0, none⟩) m m) (w.alloc (.cells cur E)) := by
 obtain ⟨i0, z, hi, hz, hz1, hz2, hz3⟩ := hT.info
 have hB : (i0.bytes : Int) * (m : Int) ≤ 281474976710656 := by
  rw [hz2, ← Int.natCast_mul, Nat.mul_comm]
  omega
 refine ⟨madeCells z.cells (m * i0.size), ?_, fun w => ?_⟩
 ·rw [hz1]
  exact size_madeCells ..
 ·have h := run_make (P := P) w T E i0 z hT.u hi hz .i64 .i64 (m : Int) (m : Int) (by omega) (by omega) hB (by omega)
  simpa using h
theorem NewS.made (hT : ElT P T E f n B) {w : World} {base p : Nat} {q : List α} (hb : base ≤ p) (hp : w.heap[p]? = some (.cells (cellsOf f q).toArray E (0, 0))) : NewS f n E base w (.slice (some ⟨p, 0, none⟩) q.length q.length) q := by
 refine .inr ⟨p, _, rfl, hb, hp, fun i x hx => ?_⟩
 have hl := cellsOf_len hT.size q
 have hi := (List.getElem?_eq_some_iff.1 hx).1
 have h1 : (i + 1) * n ≤ q.length * n := Nat.mul_le_mul_right _ hi
 rw [Nat.add_mul, Nat.one_mul] at h1
 refine ⟨?_, by simp [hl]; omega⟩
 apply Array.toList_inj.1
 rw [← cellsOf_get hT.size q i x hx]
 simp [List.take_drop, Nat.add_comm]
end
end Go.Proofs.YtiaehkkkcaeaiaaGreatDoor
namespace Go.Proofs.YtiaehkkkcaeaiaaGreatDoor
open Go.RowKit
open Go.ChangeMaps (setBlock)
attribute [local go_sem] cell_blk frozen_blk one_int one_bool one_ptr one_slice one_map Value.cells
attribute [local go_sem ↓] wlKey ldKey stKey
attribute [local go_sem] kc_ext kc_one kc_one0 kc_size zKey_size one_slice
theorem sigIsS : IsSigT Tryz.prog 101 5 where
 laid := laid
 row := of_decide_eq_true (by kernel_rfl)
 at2 := by kernel_rfl
 u := Tryz.underlying101
 e := Tryz.underlying5
 cK := by kernel_rfl
 cE := by kernel_rfl
 kt := by kernel_rfl
theorem eqSigS (a b : Sg) (w : World) : (Op.equalIn 10000 101 (.agg (sgc a)) (.agg (sgc b))).run Tryz.prog w = .ok (decide (a = b)) w := sigIsS.eqIn 9998 a b w
attribute [local go_sem ↓] ldSg stSg eqSigS eqKey1
attribute [local go_sem] sgc_size sgc_ext sgc_one0 sgc_one'
set_option maxRecDepth 20000 in
set_option maxHeartbeats 1600000 in
theorem sameK_c (a a2 : Option Addr) (l l2 : List Key) (c c2 : Nat) (w : World) (h1 : SlAt kc 32 w a l) (h2 : SlAt kc 32 w a2 l2) (hb : l.length ≤ 1000000) : Calls Tryz.prog 102 #[.slice a l.length c, .slice a2 l2.length c2] w fun e w' => e = .returned (.bool (decide (l = l2))) ∧ Mod (fun _ => False) w w' := by
 by_cases hl : l.length = l2.length
 ·have HL := Lib.hid hl
  have hd0 : ((l.length : Int) != (l2.length : Int)) = false := by simp [hl]
  clear hl
  go_enter Tryz.func102, Tryz.ntmps102
  go_wp2_with fail
  clear hd0
  go_loopw [5] (fun s5 ws => ∃ i : Nat, i ≤ l.length ∧ s5 = .int .i64 (i : Int) ∧ Hid (l.take i = l2.take i) ∧ Mod (fun _ => False) w ws) (fun s5 _ => l.length - (intOf s5).toNat)
  case atStart => exact ⟨0, by omega, rfl, Lib.hid (by simp), Mod.refl _ _⟩
  case round =>
   obtain ⟨i, hi, rfl, HT, hm⟩ := hrel
   by_cases hlt : i < l.length
   ·obtain ⟨x, hx⟩ : ∃ x, l[i]? = some x := ⟨_, List.getElem?_eq_getElem hlt⟩
    obtain ⟨y, hy⟩ : ∃ y, l2[i]? = some y := ⟨_, List.getElem?_eq_getElem (by have := HL.out; omega)⟩
    obtain ⟨g, o, C, U, fr, rfl, kl, he, hle⟩ := (h1.mod0 hm).block hx
    obtain ⟨g2, o2, C2, U2, fr2, rfl, kl2, he2, hle2⟩ := (h2.mod0 hm).block hy
    have hlt2 : (i : Int) < (l2.length : Int) := by
     have := HL.out
     omega
    have HX := Lib.hid hx
    have HY := Lib.hid hy
    have H1 := Lib.hid h1
    have H2 := Lib.hid h2
    clear h1 h2 hx hy
    by_cases hxy : x = y
    ·subst hxy
     go_upto_region 6 with fail
     have Lkl := lt_size kl
     have Lkl2 := lt_size kl2
     refine wp_pass (C := fun _ _ _ => False) (κ := fun i => [0, 0, 0, 1, 0, 0, 0, 1, 0].getD i 0) [0, 1, 2, 3, 4, 5, 6, 7, 8] (by kernel_rfl) (by kernel_rfl) (fun _ _ d _ _ h => by cases d <;> first | exact h | exact absurd h (hP _ _ _)) ?_
     iterate 9 first | (refine TD.val0 (v := ?_) (by simp only [zK]; rfl) rfl (by rfl) (fun w1 => ?_) ?_; rotate_left; (next => go_simp; try with_reducible rfl); try simp only [zL]) | (refine TD.load (v := ?_) (p := ?_) (Mod.refl _ _) (by simp only [zK]; rfl) rfl (by rfl) rfl ?_ (fun wq hSq => ?_) ?_; rotate_left 2; (next => simp only [zM]; try rfl); (next => have klq := hSq.at kl (fun h => h); have kl2q := hSq.at kl2 (fun h => h); go_simp; try with_reducible rfl); try simp only [zL])
     refine TD.nil (fun w2 hr => ?_)
     replace kl := hr.mod.at kl (fun h => h)
     replace kl2 := hr.mod.at kl2 (fun h => h)
     have mm := hm.then0 hr.mod
     clear he he2 hle hle2
     go_wp2_with fail
     go_roundw
     case rel => exact ⟨i + 1, by omega, by go_num, Lib.hid (by
      rw [List.take_add_one, List.take_add_one, HT.out, HX.out, HY.out]), mm⟩
     case measure => first | omega | (simp [intOf]; omega)
    ·go_upto_region 6 with fail
     have Lkl := lt_size kl
     have Lkl2 := lt_size kl2
     refine wp_pass (C := fun _ _ _ => False) (κ := fun i => [0, 0, 0, 1, 0, 0, 0, 1, 0].getD i 0) [0, 1, 2, 3, 4, 5, 6, 7, 8] (by kernel_rfl) (by kernel_rfl) (fun _ _ d _ _ h => by cases d <;> first | exact h | exact absurd h (hP _ _ _)) ?_
     iterate 9 first | (refine TD.val0 (v := ?_) (by simp only [zK]; rfl) rfl (by rfl) (fun w1 => ?_) ?_; rotate_left; (next => go_simp; try with_reducible rfl); try simp only [zL]) | (refine TD.load (v := ?_) (p := ?_) (Mod.refl _ _) (by simp only [zK]; rfl) rfl (by rfl) rfl ?_ (fun wq hSq => ?_) ?_; rotate_left 2; (next => simp only [zM]; try rfl); (next => have klq := hSq.at kl (fun h => h); have kl2q := hSq.at kl2 (fun h => h); go_simp; try with_reducible rfl); try simp only [zL])
     refine TD.nil (fun w2 hr => ?_)
     replace kl := hr.mod.at kl (fun h => h)
     replace kl2 := hr.mod.at kl2 (fun h => h)
     have mm := hm.then0 hr.mod
     clear he he2 hle hle2
     go_wp2_with fail
     go_ret
     refine ⟨?_, mm⟩
     rw [show decide (l = l2) = false from decide_eq_false (fun e => by
      subst e
      have h1 := HX.out
      have h2 := HY.out
      rw [h1] at h2
      exact hxy (by injection h2))]
     rfl
   ·have hll : l = l2 := by
     have := HT.out
     rw [List.take_of_length_le (by omega), List.take_of_length_le (by have := HL.out; omega)] at this
     exact this
    have HLL := Lib.hid hll
    clear hll HT
    go_wp2_with fail
    go_ret
    exact ⟨by rw [HLL.out]; simp, hm⟩
 ·have hd0 : ((l.length : Int) != (l2.length : Int)) = true := by
   simp only [bne_iff_ne, ne_eq]
   omega
  have HD : Hid (decide (l = l2) = false) := Lib.hid (decide_eq_false (fun e => hl (by rw [e])))
  clear hl
  go_enter Tryz.func102, Tryz.ntmps102
  go_wp2_with fail
  go_ret
  exact ⟨by rw [HD.out]; rfl, Mod.refl _ _⟩
set_option maxRecDepth 20000 in
set_option maxHeartbeats 1600000 in
theorem sameS_c (a a2 : Option Addr) (l l2 : List Sg) (c c2 : Nat) (w : World) (h1 : SlAt sgc 64 w a l) (h2 : SlAt sgc 64 w a2 l2) (hb : l.length ≤ 1000000) : Calls Tryz.prog 57 #[.slice a l.length c, .slice a2 l2.length c2] w fun e w' => e = .returned (.bool (decide (l = l2))) ∧ Mod (fun _ => False) w w' := by
 by_cases hl : l.length = l2.length
 ·have HL := Lib.hid hl
  have hd0 : ((l.length : Int) != (l2.length : Int)) = false := by simp [hl]
  clear hl
  go_enter Tryz.func57, Tryz.ntmps57
  go_wp2_with fail
  clear hd0
  go_loopw [5] (fun s5 ws => ∃ i : Nat, i ≤ l.length ∧ s5 = .int .i64 (i : Int) ∧ Hid (l.take i = l2.take i) ∧ Mod (fun _ => False) w ws) (fun s5 _ => l.length - (intOf s5).toNat)
  case atStart => exact ⟨0, by omega, rfl, Lib.hid (by simp), Mod.refl _ _⟩
  case round =>
   obtain ⟨i, hi, rfl, HT, hm⟩ := hrel
   by_cases hlt : i < l.length
   ·obtain ⟨x, hx⟩ : ∃ x, l[i]? = some x := ⟨_, List.getElem?_eq_getElem hlt⟩
    obtain ⟨y, hy⟩ : ∃ y, l2[i]? = some y := ⟨_, List.getElem?_eq_getElem (by have := HL.out; omega)⟩
    obtain ⟨g, o, C, U, fr, rfl, kl, he, hle⟩ := (h1.mod0 hm).block hx
    obtain ⟨g2, o2, C2, U2, fr2, rfl, kl2, he2, hle2⟩ := (h2.mod0 hm).block hy
    have hlt2 : (i : Int) < (l2.length : Int) := by
     have := HL.out
     omega
    have HX := Lib.hid hx
    have HY := Lib.hid hy
    have H1 := Lib.hid h1
    have H2 := Lib.hid h2
    clear h1 h2 hx hy
    by_cases hxy : x = y
    ·subst hxy
     go_upto_region 6 with fail
     have Lkl := lt_size kl
     have Lkl2 := lt_size kl2
     refine wp_pass (C := fun _ _ _ => False) (κ := fun i => [0, 0, 0, 1, 0, 0, 0, 1, 0].getD i 0) [0, 1, 2, 3, 4, 5, 6, 7, 8] (by kernel_rfl) (by kernel_rfl) (fun _ _ d _ _ h => by cases d <;> first | exact h | exact absurd h (hP _ _ _)) ?_
     iterate 9 first | (refine TD.val0 (v := ?_) (by simp only [zK]; rfl) rfl (by rfl) (fun w1 => ?_) ?_; rotate_left; (next => go_simp; try with_reducible rfl); try simp only [zL]) | (refine TD.load (v := ?_) (p := ?_) (Mod.refl _ _) (by simp only [zK]; rfl) rfl (by rfl) rfl ?_ (fun wq hSq => ?_) ?_; rotate_left 2; (next => simp only [zM]; try rfl); (next => have klq := hSq.at kl (fun h => h); have kl2q := hSq.at kl2 (fun h => h); go_simp; try with_reducible rfl); try simp only [zL])
     refine TD.nil (fun w2 hr => ?_)
     replace kl := hr.mod.at kl (fun h => h)
     replace kl2 := hr.mod.at kl2 (fun h => h)
     have mm := hm.then0 hr.mod
     clear he he2 hle hle2
     go_wp2_with fail
     go_roundw
     case rel => exact ⟨i + 1, by omega, by go_num, Lib.hid (by
      rw [List.take_add_one, List.take_add_one, HT.out, HX.out, HY.out]), mm⟩
     case measure => first | omega | (simp [intOf]; omega)
    ·go_upto_region 6 with fail
     have Lkl := lt_size kl
     have Lkl2 := lt_size kl2
     refine wp_pass (C := fun _ _ _ => False) (κ := fun i => [0, 0, 0, 1, 0, 0, 0, 1, 0].getD i 0) [0, 1, 2, 3, 4, 5, 6, 7, 8] (by kernel_rfl) (by kernel_rfl) (fun _ _ d _ _ h => by cases d <;> first | exact h | exact absurd h (hP _ _ _)) ?_
     iterate 9 first | (refine TD.val0 (v := ?_) (by simp only [zK]; rfl) rfl (by rfl) (fun w1 => ?_) ?_; rotate_left; (next => go_simp; try with_reducible rfl); try simp only [zL]) | (refine TD.load (v := ?_) (p := ?_) (Mod.refl _ _) (by simp only [zK]; rfl) rfl (by rfl) rfl ?_ (fun wq hSq => ?_) ?_; rotate_left 2; (next => simp only [zM]; try rfl); (next => have klq := hSq.at kl (fun h => h); have kl2q := hSq.at kl2 (fun h => h); go_simp; try with_reducible rfl); try simp only [zL])
     refine TD.nil (fun w2 hr => ?_)
     replace kl := hr.mod.at kl (fun h => h)
     replace kl2 := hr.mod.at kl2 (fun h => h)
     have mm := hm.then0 hr.mod
     clear he he2 hle hle2
     go_wp2_with fail
     go_ret
     refine ⟨?_, mm⟩
     rw [show decide (l = l2) = false from decide_eq_false (fun e => by
      subst e
      have h1 := HX.out
      have h2 := HY.out
      rw [h1] at h2
      exact hxy (by injection h2))]
     rfl
   ·have hll : l = l2 := by
     have := HT.out
     rw [List.take_of_length_le (by omega), List.take_of_length_le (by have := HL.out; omega)] at this
     exact this
    have HLL := Lib.hid hll
    clear hll HT
    go_wp2_with fail
    go_ret
    exact ⟨by rw [HLL.out]; simp, hm⟩
 ·have hd0 : ((l.length : Int) != (l2.length : Int)) = true := by
   simp only [bne_iff_ne, ne_eq]
   omega
  have HD : Hid (decide (l = l2) = false) := Lib.hid (decide_eq_false (fun e => hl (by rw [e])))
  clear hl
  go_enter Tryz.func57, Tryz.ntmps57
  go_wp2_with fail
  go_ret
  exact ⟨by rw [HD.out]; rfl, Mod.refl _ _⟩
set_option maxRecDepth 20000 in
set_option maxHeartbeats 1600000 in
theorem sameB_c (a a2 : Option Addr) (l l2 : List UInt8) (c c2 : Nat) (w : World) (h1 : SlAt uc 1 w a l) (h2 : SlAt uc 1 w a2 l2) (hb : l.length ≤ 1000000) : Calls Tryz.prog 41 #[.slice a l.length c, .slice a2 l2.length c2] w fun e w' => e = .returned (.bool (decide (l = l2))) ∧ Mod (fun _ => False) w w' := by
 by_cases hl : l.length = l2.length
 ·have HL := Lib.hid hl
  have hd0 : ((l.length : Int) != (l2.length : Int)) = false := by simp [hl]
  clear hl
  go_enter Tryz.func41, Tryz.ntmps41
  go_wp2_with fail
  clear hd0
  go_loopw [5] (fun s5 ws => ∃ i : Nat, i ≤ l.length ∧ s5 = .int .i64 (i : Int) ∧ Hid (l.take i = l2.take i) ∧ Mod (fun _ => False) w ws) (fun s5 _ => l.length - (intOf s5).toNat)
  case atStart => exact ⟨0, by omega, rfl, Lib.hid (by simp), Mod.refl _ _⟩
  case round =>
   obtain ⟨i, hi, rfl, HT, hm⟩ := hrel
   by_cases hlt : i < l.length
   ·obtain ⟨x, hx⟩ : ∃ x, l[i]? = some x := ⟨_, List.getElem?_eq_getElem hlt⟩
    obtain ⟨y, hy⟩ : ∃ y, l2[i]? = some y := ⟨_, List.getElem?_eq_getElem (by have := HL.out; omega)⟩
    obtain ⟨g, o, C, U, fr, rfl, kl, he⟩ := u8_at (h1.mod0 hm) hx
    obtain ⟨g2, o2, C2, U2, fr2, rfl, kl2, he2⟩ := u8_at (h2.mod0 hm) hy
    have hlt2 : (i : Int) < (l2.length : Int) := by
     have := HL.out
     omega
    have HX := Lib.hid hx
    have HY := Lib.hid hy
    have H1 := Lib.hid h1
    have H2 := Lib.hid h2
    clear h1 h2 hx hy
    by_cases hxy : x = y
    ·have hd1 : ((x.toNat : Int) != (y.toNat : Int)) = false := by simp [hxy]
     have hd2 : (x.toNat != y.toNat) = false := by simp [hxy]
     have HXY := Lib.hid hxy
     clear hxy
     go_upto_region 6 with fail
     have Lkl := lt_size kl
     have Lkl2 := lt_size kl2
     refine wp_pass (C := fun _ _ _ => False) (κ := fun i => [0, 0, 0, 1, 0, 0, 0, 1, 0].getD i 0) [0, 1, 2, 3, 4, 5, 6, 7, 8] (by kernel_rfl) (by kernel_rfl) (fun _ _ d _ _ h => by cases d <;> first | exact h | exact absurd h (hP _ _ _)) ?_
     iterate 9 first | (refine TD.val0 (v := ?_) (by simp only [zK]; rfl) rfl (by rfl) (fun w1 => ?_) ?_; rotate_left; (next => go_simp; try with_reducible rfl); try simp only [zL]) | (refine TD.load (v := ?_) (p := ?_) (Mod.refl _ _) (by simp only [zK]; rfl) rfl (by rfl) rfl ?_ (fun wq hSq => ?_) ?_; rotate_left 2; (next => simp only [zM]; try rfl); (next => have klq := hSq.at kl (fun h => h); have kl2q := hSq.at kl2 (fun h => h); go_simp; try with_reducible rfl); try simp only [zL])
     refine TD.nil (fun w2 hr => ?_)
     replace kl := hr.mod.at kl (fun h => h)
     replace kl2 := hr.mod.at kl2 (fun h => h)
     have mm := hm.then0 hr.mod
     clear he he2
     go_wp2_with fail
     go_roundw
     case rel => exact ⟨i + 1, by omega, by go_num, Lib.hid (by
      rw [List.take_add_one, List.take_add_one, HT.out, HX.out, HY.out, HXY.out]), mm⟩
     case measure => first | omega | (simp [intOf]; omega)
    ·have hn : x.toNat ≠ y.toNat := fun e => hxy (UInt8.toNat_inj.1 e)
     have hd1 : ((x.toNat : Int) != (y.toNat : Int)) = true := by simp; omega
     have hd2 : (x.toNat != y.toNat) = true := by simp [hn]
     go_upto_region 6 with fail
     have Lkl := lt_size kl
     have Lkl2 := lt_size kl2
     refine wp_pass (C := fun _ _ _ => False) (κ := fun i => [0, 0, 0, 1, 0, 0, 0, 1, 0].getD i 0) [0, 1, 2, 3, 4, 5, 6, 7, 8] (by kernel_rfl) (by kernel_rfl) (fun _ _ d _ _ h => by cases d <;> first | exact h | exact absurd h (hP _ _ _)) ?_
     iterate 9 first | (refine TD.val0 (v := ?_) (by simp only [zK]; rfl) rfl (by rfl) (fun w1 => ?_) ?_; rotate_left; (next => go_simp; try with_reducible rfl); try simp only [zL]) | (refine TD.load (v := ?_) (p := ?_) (Mod.refl _ _) (by simp only [zK]; rfl) rfl (by rfl) rfl ?_ (fun wq hSq => ?_) ?_; rotate_left 2; (next => simp only [zM]; try rfl); (next => have klq := hSq.at kl (fun h => h); have kl2q := hSq.at kl2 (fun h => h); go_simp; try with_reducible rfl); try simp only [zL])
     refine TD.nil (fun w2 hr => ?_)
     replace kl := hr.mod.at kl (fun h => h)
     replace kl2 := hr.mod.at kl2 (fun h => h)
     have mm := hm.then0 hr.mod
     clear he he2
     go_wp2_with fail
     go_ret
     refine ⟨?_, mm⟩
     rw [show decide (l = l2) = false from decide_eq_false (fun e => by
      subst e
      have h1 := HX.out
      have h2 := HY.out
      rw [h1] at h2
      exact hxy (by injection h2))]
     rfl
   ·have hll : l = l2 := by
     have := HT.out
     rw [List.take_of_length_le (by omega), List.take_of_length_le (by have := HL.out; omega)] at this
     exact this
    have HLL := Lib.hid hll
    clear hll HT
    go_wp2_with fail
    go_ret
    exact ⟨by rw [HLL.out]; simp, hm⟩
 ·have hd0 : ((l.length : Int) != (l2.length : Int)) = true := by
   simp only [bne_iff_ne, ne_eq]
   omega
  have HD : Hid (decide (l = l2) = false) := Lib.hid (decide_eq_false (fun e => hl (by rw [e])))
  clear hl
  go_enter Tryz.func41, Tryz.ntmps41
  go_wp2_with fail
  go_ret
  exact ⟨by rw [HD.out]; rfl, Mod.refl _ _⟩
end Go.Proofs.YtiaehkkkcaeaiaaGreatDoor
namespace Go.Proofs.YtiaehkkkcaeaiaaGreatDoor
open Go.RowKit
open Go.ChangeMaps (setBlock)
attribute [local go_sem] cell_blk frozen_blk one_int one_bool one_ptr one_slice one_map Value.cells
attribute [local go_sem ↓] wlKey ldKey stKey wlMsg ldMsg stMsg wlRg ldRg stRg wlTc ldTc stTc ldSg stSg
attribute [local go_sem] kc_ext kc_one kc_one0 kc_size zKey_size one_slice mgx_size mgx_ext mgx_one mgx_one0 zMsg_size zMsg_all zMsg_all0
attribute [local go_sem] rgx0' rgx40' rgx_size rgx_one rgx_one0 rgx0 rgx40 tcx_size tcx_ext tcx_one tcx_one0 mcx_size mcx_one0 mcx_ext zTc_size zTc_ext zTc_all zTc_all0 sgc_size sgc_ext sgc_one0 sgc_one'
theorem zSg_size : zSg.size = 64 := by simp [zSg]
attribute [local go_sem] zSg_size
theorem ldTxr {w : World} {p : Nat} {r : RdR} {U : TypeId} {fr : Nat × Nat} (h : w.heap[p]? = some (.cells (txr r) U fr)) : (Instr.loadAt 35 (.pointer (some ⟨p, 0, none⟩))).run Tryz.prog w = .ok (.agg (txr r)) w := by
 rw [ldTc, h]
 simp [txr_size, txr_all]
attribute [local go_sem] txr_size txr_all txr_one txr_one'
end Go.Proofs.YtiaehkkkcaeaiaaGreatDoor
namespace Go.Proofs.YtiaehkkkcaeaiaaGreatDoor
open Go.RowKit
open Go.ChangeMaps (setBlock)
attribute [local go_sem] cell_blk frozen_blk one_int one_bool one_ptr one_slice one_map Value.cells
attribute [local go_sem ↓] wlKey ldKey stKey wlMsg ldMsg stMsg wlRg ldRg stRg wlTx ldTx ldSg stSg
attribute [local go_sem] kc_ext kc_one kc_one0 kc_size zKey_size one_slice mgx_size mgx_ext mgx_one mgx_one0 zMsg_size zMsg_all zMsg_all0
attribute [local go_sem] tcx_size tcx_ext tcx_one tcx_one0 txr_size txr_all txr_one txr_one' zTx_size zTc_size zTc_all zTc_all0
theorem NE.tx (l : List UInt8) : NE (pTx l) := by
 unfold pTx
 split
 ·split
  ·simp [NE]
  ·exact (NE.msg _ _).bind fun m k => by simp [NE]
 ·rename_i h
  simpa [NE] using h
end Go.Proofs.YtiaehkkkcaeaiaaGreatDoor
namespace Go.Proofs.YtiaehkkkcaeaiaaGreatDoor
open Go.RowKit
open Go.ChangeMaps (setBlock)
attribute [local go_sem] cell_blk frozen_blk one_int one_bool one_ptr one_slice one_map Value.cells
attribute [local go_sem ↓] wlKey ldKey stKey wlMsg ldMsg stMsg wlTc ldTc stTc
attribute [local go_sem] kc_ext kc_one kc_one0 kc_size zKey_size one_slice mgx_size mgx_ext mgx_one mgx_one0 mg0 mg1 mg2 mg3 mg4 mg37 mg38 mg37' mg38'
theorem lits_u8S (b : UInt8) (d : Nat) : Tryz.prog.keyLits (d + 1) 5 [u8v b] = some [.int .u8 (b.toNat : Int)] := by
 unfold Program.keyLits
 rw [Tryz.underlying5]
 have h := b.toNat_lt
 have hw : (Lit.int .u8 (b.toNat : Int)).wf = true := by
  have hmin : IntKind.u8.min = 0 := rfl
  have hmax : IntKind.u8.max = 255 := rfl
  simp only [Lit.wf, Bool.and_eq_true, decide_eq_true_eq]
  omega
 simp [hw]
theorem u8_cellsS : Tryz.prog.cellsOf 5 = 1 := by kernel_rfl
theorem hdr_cellsS : Tryz.prog.cellsOf 26 = 3 := by kernel_rfl
theorem eqHdr1 (a b c : UInt8) (w : World) : (Op.equalIn 10000 26 (.agg #[u8v a, u8v b, u8v c]) (.agg #[u8v a, u8v b, u8v c])).run Tryz.prog w = .ok true w := by
 obtain ⟨lx, hx⟩ : ∃ l, Tryz.prog.keyLits 2 26 [u8v a, u8v b, u8v c] = some l := by
  unfold Program.keyLits
  rw [Tryz.underlying26]
  simp [hdr_cellsS, u8_cellsS, lits_u8S _ 0]
 have hat : Tryz.prog.keyTypeAt 2 26 = true := by kernel_rfl
 have hti : Tryz.prog.tiled 2 26 = true := by kernel_rfl
 have hf : (Value.agg #[u8v a, u8v b, u8v c]).formed Tryz.prog 26 = true := by
  simp [Value.formed, Tryz.underlying26, hdr_cellsS]
 obtain ⟨r, hr, hiff⟩ := run_equalIn_deep (P := Tryz.prog) 9998 2 26 hat w 2 2 _ _ lx lx hf hf hx hx
 rw [hr, hiff.2 rfl]
theorem hashIsS : IsKeyT Tryz.prog 29 5 where
 laid := laid
 row := of_decide_eq_true (by kernel_rfl)
 at2 := by kernel_rfl
 u := Tryz.underlying29
 e := Tryz.underlying5
 cK := by kernel_rfl
 cE := by kernel_rfl
 kt := by kernel_rfl
theorem eqHashS (a b : Key) (w : World) : (Op.equalIn 10000 29 (.agg (kc a)) (.agg (kc b))).run Tryz.prog w = .ok (decide (a = b)) w := hashIsS.eqIn 9998 a b w
def zHdr : Array Value := #[.int .u8 0, .int .u8 0, .int .u8 0]
theorem ldHdr (w : World) (b o : Nat) : (Instr.loadAt 26 (.pointer (some ⟨b, o, none⟩))).run Tryz.prog w =
   match w.heap[b]? with
   | some (.cells cs _ _) => if o + 3 ≤ cs.size then .ok (.agg (cs.extract o (o + 3))) w else farL Tryz.prog w 26 b o
   | _ => farL Tryz.prog w 26 b o := load_rule (d := _) Tryz.underlying26 rfl (by kernel_rfl) w b o
theorem stHdr (w : World) (b o : Nat) (xs : Array Value) : (Instr.storeAt 26 (.pointer (some ⟨b, o, none⟩)) (.agg xs)).run Tryz.prog w =
   match w.heap[b]? with
   | some (.cells cs U (0, 0)) =>
    if o + 3 ≤ cs.size ∧ xs.size = 3 ∧ xs.all (·.oneCell') = true then .ok () (setBlock w b (.cells (if o = 0 ∧ 3 = cs.size then xs else wr cs o xs.toList) U (0, 0))) else farS Tryz.prog w 26 b o (.agg xs)
   | _ => farS Tryz.prog w 26 b o (.agg xs) := store_rule (by kernel_rfl) w b o xs
theorem wlHdr (dst : Option Tmp) (x : Operand) (ty : TypeId) (pos : String) (after : Array Edge) (g : Option (Nat × Bool)) (a : Act) (w : World) (K : Act → World → Prop) (Q : Exit → Act → World → Prop) :
  Oper.wp Tryz.prog { dst := dst, op := .load 26 x, type := ty, pos := pos, after := after, guard := g } a w K Q =
   (match a.eval x with
   | .pointer (some ⟨b, o, none⟩) =>
    (match w.heap[b]? with
    | some (.cells cs _ _) => if o + 3 ≤ cs.size then K (a.put dst (.agg (cs.extract o (o + 3)))) w else farW Tryz.prog { dst := dst, op := .load 26 x, type := ty, pos := pos, after := after, guard := g } a w K Q
    | _ => farW Tryz.prog { dst := dst, op := .load 26 x, type := ty, pos := pos, after := after, guard := g } a w K Q)
   | _ => farW Tryz.prog { dst := dst, op := .load 26 x, type := ty, pos := pos, after := after, guard := g } a w K Q) := wp_load_rule (d := _) Tryz.underlying26 rfl (by kernel_rfl) dst x ty pos after g a w K Q
theorem alHdr (w : World) : (Instr.alloc 26 true (.tuple #[])).run Tryz.prog w = .ok (.pointer (some ⟨w.heap.size, 0, none⟩)) (w.alloc (.cells zHdr 26)) :=
 run_alloc_row (z := .agg zHdr) (fun w => by kernel_rfl) w
attribute [local go_sem ↓] wlHs stHs wlHdr ldHdr stHdr eqHashS eqHdr1 eqKey1
theorem mgx_hd (v0 : Bool) (h0 h1 h2 : UInt8) (ka : Option Addr) (kn kc' : Nat) (rc : Key) (ia : Option Addr) (n1 c1 : Nat) (la : Option Addr) (n2 c2 : Nat) : (mgx v0 h0 h1 h2 ka kn kc' rc ia n1 c1 la n2 c2).extract 1 4 = #[u8v h0, u8v h1, u8v h2] := by
 simp [mgx, mx]
theorem mgx_hs (v0 : Bool) (h0 h1 h2 : UInt8) (ka : Option Addr) (kn kc' : Nat) (rc : Key) (ia : Option Addr) (n1 c1 : Nat) (la : Option Addr) (n2 c2 : Nat) : (mgx v0 h0 h1 h2 ka kn kc' rc ia n1 c1 la n2 c2).extract 5 37 = kc rc := by
 have := part_of (pre := [Value.bool v0, u8v h0, u8v h1, u8v h2, .slice ka kn kc']) (mid := rc.l.map bc) (post := [.slice ia n1 c1, .slice la n2 c2]) (a := 5) (b := 37) rfl (by simp [rc.h])
 simpa [mgx, mx, kc] using this
theorem mg0' {v0 : Bool} {h0 h1 h2 : UInt8} {ka : Option Addr} {kn kc' : Nat} {rc : Key} {ia : Option Addr} {n1 c1 : Nat} {la : Option Addr} {n2 c2 : Nat} (h : 0 < (mgx v0 h0 h1 h2 ka kn kc' rc ia n1 c1 la n2 c2).size) : (mgx v0 h0 h1 h2 ka kn kc' rc ia n1 c1 la n2 c2)[0] = .bool v0 := at_get (mg0 ..) h
theorem mg4' {v0 : Bool} {h0 h1 h2 : UInt8} {ka : Option Addr} {kn kc' : Nat} {rc : Key} {ia : Option Addr} {n1 c1 : Nat} {la : Option Addr} {n2 c2 : Nat} (h : 4 < (mgx v0 h0 h1 h2 ka kn kc' rc ia n1 c1 la n2 c2).size) : (mgx v0 h0 h1 h2 ka kn kc' rc ia n1 c1 la n2 c2)[4] = .slice ka kn kc' := at_get (mg4 ..) h
attribute [local go_sem] mgx_hd mgx_hs mg0' mg4'
def MsgRd (w : World) (r : RdR) : Prop := (SlAt kc 32 w r.ks.a r.ks.l ∧ r.ks.l.length ≤ 1000000) ∧ (SlAt inr 3 w r.ins.a r.ins.l ∧ r.ins.l.length ≤ 1000000 ∧ ∀ i ∈ r.ins.l, (SlAt uc 1 w i.a.a i.a.l ∧ i.a.l.length ≤ 1000000) ∧ (SlAt uc 1 w i.d.a i.d.l ∧ i.d.l.length ≤ 1000000)) ∧
 (SlAt lor 34 w r.lks.a r.lks.l ∧ r.lks.l.length ≤ 1000000 ∧ ∀ i ∈ r.lks.l, (SlAt uc 1 w i.w.a i.w.l ∧ i.w.l.length ≤ 1000000) ∧ (SlAt uc 1 w i.r.a i.r.l ∧ i.r.l.length ≤ 1000000))
theorem MsgRd.mod0 {w w' : World} {r : RdR} (h : MsgRd w r) (hm : Mod (fun _ => False) w w') : MsgRd w' r :=
 ⟨⟨h.1.1.mod0 hm, h.1.2⟩, ⟨h.2.1.1.mod0 hm, h.2.1.2.1, fun i hi => ⟨⟨(h.2.1.2.2 i hi).1.1.mod0 hm, (h.2.1.2.2 i hi).1.2⟩, ⟨(h.2.1.2.2 i hi).2.1.mod0 hm, (h.2.1.2.2 i hi).2.2⟩⟩⟩,
  h.2.2.1.mod0 hm, h.2.2.2.1, fun i hi => ⟨⟨(h.2.2.2.2 i hi).1.1.mod0 hm, (h.2.2.2.2 i hi).1.2⟩, ⟨(h.2.2.2.2 i hi).2.1.mod0 hm, (h.2.2.2.2 i hi).2.2⟩⟩⟩
def TxRd (w : World) (r : RdR) : Prop := (SlAt sgc 64 w r.sg.a r.sg.l ∧ r.sg.l.length ≤ 1000000) ∧ MsgRd w r
theorem TxRd.mod0 {w w' : World} {r : RdR} (h : TxRd w r) (hm : Mod (fun _ => False) w w') : TxRd w' r := ⟨⟨h.1.1.mod0 hm, h.1.2⟩, h.2.mod0 hm⟩
theorem in_partsS {w : World} {a : Option Addr} {l : List InR} (h : SlAt inr 3 w a l) {i : Nat} {x : InR} (hx : l[i]? = some x) : ∃ g o C U fr, a = some ⟨g, o, none⟩ ∧ w.heap[g]? = some (.cells C U fr) ∧ C[o + i * 3]? = some (u8v x.p) ∧ C[o + i * 3 + 1]? = some (.slice x.a.a x.a.l.length x.a.c) ∧ C[o + i * 3 + 2]? = some (.slice x.d.a x.d.l.length x.d.c) := by
 obtain ⟨g, o, C, U, fr, rfl, hk, he, _⟩ := h.block hx
 exact ⟨g, o, C, U, fr, rfl, hk, cellC he (j := 0) rfl, cellC he (j := 1) rfl, cellC he (j := 2) rfl⟩
theorem lo_partsS {w : World} {a : Option Addr} {l : List LoR} (h : SlAt lor 34 w a l) {i : Nat} {x : LoR} (hx : l[i]? = some x) : ∃ g o C U fr, a = some ⟨g, o, none⟩ ∧ w.heap[g]? = some (.cells C U fr) ∧ C.extract (o + i * 34) (o + i * 34 + 32) = kc x.t ∧ o + i * 34 + 32 ≤ C.size ∧ C[o + i * 34 + 32]? = some (.slice x.w.a x.w.l.length x.w.c) ∧ C[o + i * 34 + 33]? = some (.slice x.r.a x.r.l.length x.r.c) := by
 obtain ⟨g, o, C, U, fr, rfl, hk, he, hle⟩ := h.block hx
 refine ⟨g, o, C, U, fr, rfl, hk, ?_, by omega, cellC he (j := 32) (kx_get _ _ 0), cellC he (j := 33) (kx_get _ _ 1)⟩
 have h1 : (lor x).extract 0 32 = kc x.t := kx_key _ _
 rw [← h1, ← he, Array.extract_extract]
 congr 1
 omega
set_option maxRecDepth 20000 in
set_option maxHeartbeats 6400000 in
theorem sameMsg_c (x y : RdR) (w : World) (hx : MsgRd w x) (hy : MsgRd w y) (hxy : msgP x = msgP y) : Calls Tryz.prog 58 #[.agg (msr x), .agg (msr y)] w fun e w' => e = .returned (.bool true) ∧ Mod (fun _ => False) w w' := by
 have HX := Lib.hid hx
 have HY := Lib.hid hy
 obtain ⟨bx, sgx, v0, h0, h1, h2, ks, rc, ins, lks, rox, ux, px, badx, fx, cx, qx⟩ := x
 obtain ⟨by', sgy, v0', h0', h1', h2', ks', rc', ins', lks', roy, uy, py, bady, fy, cy, qy⟩ := y
 simp only [msgP, MsP.mk.injEq] at hxy
 obtain ⟨rfl, rfl, rfl, rfl, hks, rfl, hin, hlk⟩ := hxy
 obtain ⟨ka, K, kcap⟩ := ks
 obtain ⟨ka', K', kcap'⟩ := ks'
 obtain ⟨ia, I, ic⟩ := ins
 obtain ⟨ia', I', ic'⟩ := ins'
 obtain ⟨la, L, lc⟩ := lks
 obtain ⟨la', L', lc'⟩ := lks'
 simp only at hks hin hlk
 subst hks
 have hnI : I'.length = I.length := by have := congrArg List.length hin; simpa using this.symm
 have hnL : L'.length = L.length := by have := congrArg List.length hlk; simpa using this.symm
 obtain ⟨nK, hnK⟩ : ∃ n, K.length = n := ⟨_, rfl⟩
 obtain ⟨nI, hI⟩ : ∃ n, I.length = n := ⟨_, rfl⟩
 obtain ⟨nL, hL⟩ : ∃ n, L.length = n := ⟨_, rfl⟩
 rw [hI] at hnI
 rw [hL] at hnL
 show Calls Tryz.prog 58 #[.agg (mgx v0 h0 h1 h2 ka K.length kcap rc ia I.length ic la L.length lc), .agg (mgx v0 h0 h1 h2 ka' K.length kcap' rc ia' I'.length ic' la' L'.length lc')] w _
 rw [hnK, hI, hL, hnI, hnL]
 have HN := Lib.hid (And.intro hnK (And.intro hI (And.intro hL (And.intro hnI (And.intro hnL (And.intro hin hlk))))))
 have hb1 : nI ≤ 1000000 := by rw [← hI]; exact HX.out.2.1.2.1
 have hb2 : nL ≤ 1000000 := by rw [← hL]; exact HX.out.2.2.2.1
 clear hx hy hnK hI hL hnI hnL hin hlk
 go_enter Tryz.func58, Tryz.ntmps58
 go_upto_region 0 with fail
 refine wp_pass0 (C := fun _ _ _ => False) (κ := fun i => [3, 3, 0].getD i 0) [0, 1, 2] (by kernel_rfl) (by kernel_rfl) (fun _ _ d _ _ h => by cases d <;> first | exact h | exact absurd h (hP _ _ _)) ?_
 (refine TD.box (v := ?v1) (by simp only [zK]; rfl) rfl (by rfl) rfl rfl ?hx1 (fun p2 hp2 => ?n1); (case hx1 => simp only [zM]; try rfl); try simp only [zL])
 (refine TD.box (v := ?v2) (by simp only [zK]; rfl) rfl (by rfl) rfl rfl ?hx2 (fun p3 hp3 => ?n2); (case hx2 => simp only [zM]; try rfl); try simp only [zL])
 obtain ⟨ne_p3_p2, hp3⟩ := Bx.set_none hp3
 (refine TD.val0 (v := ?_) (by simp only [zK]; rfl) rfl (by rfl) (fun w1 => ?_) ?_; rotate_left; (next => go_simp; try with_reducible rfl); try simp only [zL])
 refine TD.nil (fun w1 hr => ?_)
 have kp2 := hr.box p2 _ (by first | exact Bx.set_same _ _ _ | (simp only [Bx.set_ne _ (Ne.symm ne_p3_p2), Bx.set_ne _ ne_p3_p2, Bx.set_same]; rfl)); dsimp only [Value.cells] at kp2; obtain ⟨gp2, kp2⟩ := kp2
 have kp3 := hr.box p3 _ (by first | exact Bx.set_same _ _ _ | (simp only [Bx.set_ne _ (Ne.symm ne_p3_p2), Bx.set_ne _ ne_p3_p2, Bx.set_same]; rfl)); dsimp only [Value.cells] at kp3; obtain ⟨gp3, kp3⟩ := kp3
 have m1 := hr.mod
 clear hr
 have HSK := Lib.hid (sameK_c ka ka' K K kcap kcap' w1 (HX.out.1.1.mod0 m1) (HY.out.1.1.mod0 m1) HX.out.1.2)
 have hsk := HSK.out
 simp only [HN.out.1] at hsk
 have HSK2 := Lib.hid hsk
 have HM1 := Lib.hid m1
 clear hsk HSK m1
 go_wp2_with fail
 go_at_call 102
 refine HSK2.out.mono ?_
 rintro e w2 ⟨rfl, m2⟩
 replace kp2 := m2.at0 kp2
 replace kp3 := m2.at0 kp3
 have HM2 := Lib.hid (HM1.out.trans m2)
 clear m2 HM1 HSK2
 go_wp2_with fail
 go_loopw [5] (fun s5 ws => ∃ i : Nat, i ≤ nI ∧ s5 = .int .i64 (i : Int) ∧ Hid (Mod (fun _ => False) w ws) ∧ ws.heap[p2]? = some (.cells (mgx v0 h0 h1 h2 ka nK kcap rc ia nI ic la nL lc) 33 (0, 0)) ∧ ws.heap[p3]? = some (.cells (mgx v0 h0 h1 h2 ka' nK kcap' rc ia' nI ic' la' nL lc') 33 (0, 0))) (fun s5 _ => nI - (intOf s5).toNat)
 case atStart => exact ⟨0, by omega, rfl, HM2, kp2, kp3⟩
 case round =>
  obtain ⟨i, hi, rfl, HM, kp2, kp3⟩ := hrel
  by_cases hlt : i < nI
  ·--{
   have hd := decide_eq_true hlt
   obtain ⟨x, hx⟩ : ∃ x, I[i]? = some x := ⟨_, List.getElem?_eq_getElem (by have := HN.out.2.1; omega)⟩
   obtain ⟨y, hy⟩ : ∃ y, I'[i]? = some y := ⟨_, List.getElem?_eq_getElem (by have := HN.out.2.2.2.1; omega)⟩
   have hxy : inP x = inP y := by
    have h1 := congrArg (fun z => z[i]?) HN.out.2.2.2.2.2.1
    simp only [List.getElem?_map, hx, hy, Option.map_some] at h1
    exact Option.some.inj h1
   have hX := (HX.out.mod0 HM.out).2.1.2.2 x (List.mem_of_getElem? hx)
   have hY := (HY.out.mod0 HM.out).2.1.2.2 y (List.mem_of_getElem? hy)
   obtain ⟨g, o, C, U, fr, hga, kg, c0, c1, c2⟩ := in_partsS (HX.out.mod0 HM.out).2.1.1 hx
   obtain ⟨g', o', C', U', fr', hga', kg', c0', c1', c2'⟩ := in_partsS (HY.out.mod0 HM.out).2.1.1 hy
   simp only at hga hga'
   subst hga
   subst hga'
   obtain ⟨px, ⟨ax, lx, cx⟩, ⟨dx, mx', ex⟩⟩ := x
   obtain ⟨py, ⟨ay, ly, cy⟩, ⟨dy, my, ey⟩⟩ := y
   simp only [inP, InP.mk.injEq] at hxy
   obtain ⟨rfl, rfl, rfl⟩ := hxy
   simp only at c0 c1 c2 c0' c1' c2' hX hY
   have HX2 := Lib.hid hX
   have HY2 := Lib.hid hY
   clear hx hy hX hY
   go_upto_region 6 with fail
   have Lkp2 := lt_size kp2
   have Lkp3 := lt_size kp3
   have Lkg := lt_size kg
   have Lkg' := lt_size kg'
   refine wp_gpass (T0 := fun _ => False) (K := fun _ _ => True) (κ := fun i => [0, 0, 0, 0, 0, 0, 0, 0, 0, 0, 0, 0, 0, 0, 0, 0, 0, 0, 0, 0, 0, 0, 0, 0, 0, 0, 6, 0, 0, 0, 0, 0, 0, 0, 0, 0, 0, 0, 0, 0, 0, 0, 6, 0, 0].getD i 0) (υ := fun _ => []) [0, 1, 2, 3, 4, 5, 6, 7, 8, 9, 10, 11, 12, 13, 14, 15, 16, 17, 18, 19, 20, 21, 22, 23, 24, 25, 26, 27, 28, 29, 30, 31, 32, 33, 34, 35, 36, 37, 38, 39, 40, 41, 42, 43, 44] (by kernel_rfl) (by kernel_rfl) (Good.true).cl (trivial) (fun _ h => h.elim) ?_
   have gK := Good.true
   (refine TG.v0 (v := ?_) (by simp only [zK]; rfl) rfl (by rfl) (fun w1 => ?_) ?_; rotate_left; (next => go_simp; try with_reducible rfl); try simp only [zL])
   (refine TG.load (v := ?v5) (p := ?p5) (by simp only [zK]; rfl) rfl (by rfl) rfl ?hx5 (fun wq hSq => ?y5) ?n5; (case hx5 => simp only [zM]; try rfl); (case y5 => (have kp2q := hSq.at kp2 (fun h => h); have kp3q := hSq.at kp3 (fun h => h); have kgq := hSq.at kg (fun h => h); have kg'q := hSq.at kg' (fun h => h); go_simp; (try with_reducible rfl))); try simp only [zL])
   iterate 3 (refine TG.v0 (v := ?_) (by simp only [zK]; rfl) rfl (by rfl) (fun w1 => ?_) ?_; rotate_left; (next => go_simp; try with_reducible rfl); try simp only [zL])
   (refine TG.load (v := ?v9) (p := ?p9) (by simp only [zK]; rfl) rfl (by rfl) rfl ?hx9 (fun wq hSq => ?y9) ?n9; (case hx9 => simp only [zM]; try rfl); (case y9 => (have kp2q := hSq.at kp2 (fun h => h); have kp3q := hSq.at kp3 (fun h => h); have kgq := hSq.at kg (fun h => h); have kg'q := hSq.at kg' (fun h => h); go_simp; (try with_reducible rfl))); try simp only [zL])
   (refine TG.v0 (v := ?_) (by simp only [zK]; rfl) rfl (by rfl) (fun w1 => ?_) ?_; rotate_left; (next => go_simp; try with_reducible rfl); try simp only [zL])
   (refine TG.load (v := ?v11) (p := ?p11) (by simp only [zK]; rfl) rfl (by rfl) rfl ?hx11 (fun wq hSq => ?y11) ?n11; (case hx11 => simp only [zM]; try rfl); (case y11 => (have kp2q := hSq.at kp2 (fun h => h); have kp3q := hSq.at kp3 (fun h => h); have kgq := hSq.at kg (fun h => h); have kg'q := hSq.at kg' (fun h => h); go_simp; (try with_reducible rfl))); try simp only [zL])
   iterate 3 (refine TG.v0 (v := ?_) (by simp only [zK]; rfl) rfl (by rfl) (fun w1 => ?_) ?_; rotate_left; (next => go_simp; try with_reducible rfl); try simp only [zL])
   (refine TG.load (v := ?v15) (p := ?p15) (by simp only [zK]; rfl) rfl (by rfl) rfl ?hx15 (fun wq hSq => ?y15) ?n15; (case hx15 => simp only [zM]; try rfl); (case y15 => (have kp2q := hSq.at kp2 (fun h => h); have kp3q := hSq.at kp3 (fun h => h); have kgq := hSq.at kg (fun h => h); have kg'q := hSq.at kg' (fun h => h); go_simp; (try with_reducible rfl))); try simp only [zL])
   iterate 3 (refine TG.v0 (v := ?_) (by simp only [zK]; rfl) rfl (by rfl) (fun w1 => ?_) ?_; rotate_left; (next => go_simp; try with_reducible rfl); try simp only [zL])
   (refine TG.load (v := ?v19) (p := ?p19) (by simp only [zK]; rfl) rfl (by rfl) rfl ?hx19 (fun wq hSq => ?y19) ?n19; (case hx19 => simp only [zM]; try rfl); (case y19 => (have kp2q := hSq.at kp2 (fun h => h); have kp3q := hSq.at kp3 (fun h => h); have kgq := hSq.at kg (fun h => h); have kg'q := hSq.at kg' (fun h => h); go_simp; (try with_reducible rfl))); try simp only [zL])
   iterate 3 (refine TG.v0 (v := ?_) (by simp only [zK]; rfl) rfl (by rfl) (fun w1 => ?_) ?_; rotate_left; (next => go_simp; try with_reducible rfl); try simp only [zL])
   (refine TG.load (v := ?v23) (p := ?p23) (by simp only [zK]; rfl) rfl (by rfl) rfl ?hx23 (fun wq hSq => ?y23) ?n23; (case hx23 => simp only [zM]; try rfl); (case y23 => (have kp2q := hSq.at kp2 (fun h => h); have kp3q := hSq.at kp3 (fun h => h); have kgq := hSq.at kg (fun h => h); have kg'q := hSq.at kg' (fun h => h); go_simp; (try with_reducible rfl))); try simp only [zL])
   (refine TG.v0 (v := ?_) (by simp only [zK]; rfl) rfl (by rfl) (fun w1 => ?_) ?_; rotate_left; (next => go_simp; try with_reducible rfl); try simp only [zL])
   (refine TG.load (v := ?v25) (p := ?p25) (by simp only [zK]; rfl) rfl (by rfl) rfl ?hx25 (fun wq hSq => ?y25) ?n25; (case hx25 => simp only [zM]; try rfl); (case y25 => (have kp2q := hSq.at kp2 (fun h => h); have kp3q := hSq.at kp3 (fun h => h); have kgq := hSq.at kg (fun h => h); have kg'q := hSq.at kg' (fun h => h); go_simp; (try with_reducible rfl))); try simp only [zL])
   iterate 3 (refine TG.v0 (v := ?_) (by simp only [zK]; rfl) rfl (by rfl) (fun w1 => ?_) ?_; rotate_left; (next => go_simp; try with_reducible rfl); try simp only [zL])
   (refine TG.load (v := ?v29) (p := ?p29) (by simp only [zK]; rfl) rfl (by rfl) rfl ?hx29 (fun wq hSq => ?y29) ?n29; (case hx29 => simp only [zM]; try rfl); (case y29 => (have kp2q := hSq.at kp2 (fun h => h); have kp3q := hSq.at kp3 (fun h => h); have kgq := hSq.at kg (fun h => h); have kg'q := hSq.at kg' (fun h => h); go_simp; (try with_reducible rfl))); try simp only [zL])
   (refine TG.callN (f := ?f30) (args := ?r30) (fun v => v = .bool true) gK (by simp only [zK]; rfl) rfl (by rfl) (fun w1 => ?y30) (fun T wq kq ltq hSq ub => ?hsp30) ?n30; (case y30 => (go_simp; (first | with_reducible rfl | (constructor <;> with_reducible rfl)))); (case hsp30 => (have kp2q := hSq.at kp2 (fun h => h); have kp3q := hSq.at kp3 (fun h => h); have kgq := hSq.at kg (fun h => h); have kg'q := hSq.at kg' (fun h => h); exact (sameB_c _ _ _ _ _ _ wq (HX2.out.1.1.mod0 hSq) (HY2.out.1.1.mod0 hSq) HX2.out.1.2).mono (fun e w' h => ⟨_, h.1, by simp, h.2⟩))); rintro v30 hC; subst hC; try simp only [zL])
   iterate 4 (refine TG.v0 (v := ?_) (by simp only [zK]; rfl) rfl (by rfl) (fun w1 => ?_) ?_; rotate_left; (next => go_simp; try with_reducible rfl); try simp only [zL])
   (refine TG.load (v := ?v35) (p := ?p35) (by simp only [zK]; rfl) rfl (by rfl) rfl ?hx35 (fun wq hSq => ?y35) ?n35; (case hx35 => simp only [zM]; try rfl); (case y35 => (have kp2q := hSq.at kp2 (fun h => h); have kp3q := hSq.at kp3 (fun h => h); have kgq := hSq.at kg (fun h => h); have kg'q := hSq.at kg' (fun h => h); go_simp; (try with_reducible rfl))); try simp only [zL])
   iterate 3 (refine TG.v0 (v := ?_) (by simp only [zK]; rfl) rfl (by rfl) (fun w1 => ?_) ?_; rotate_left; (next => go_simp; try with_reducible rfl); try simp only [zL])
   (refine TG.load (v := ?v39) (p := ?p39) (by simp only [zK]; rfl) rfl (by rfl) rfl ?hx39 (fun wq hSq => ?y39) ?n39; (case hx39 => simp only [zM]; try rfl); (case y39 => (have kp2q := hSq.at kp2 (fun h => h); have kp3q := hSq.at kp3 (fun h => h); have kgq := hSq.at kg (fun h => h); have kg'q := hSq.at kg' (fun h => h); go_simp; (try with_reducible rfl))); try simp only [zL])
   (refine TG.v0 (v := ?_) (by simp only [zK]; rfl) rfl (by rfl) (fun w1 => ?_) ?_; rotate_left; (next => go_simp; try with_reducible rfl); try simp only [zL])
   (refine TG.load (v := ?v41) (p := ?p41) (by simp only [zK]; rfl) rfl (by rfl) rfl ?hx41 (fun wq hSq => ?y41) ?n41; (case hx41 => simp only [zM]; try rfl); (case y41 => (have kp2q := hSq.at kp2 (fun h => h); have kp3q := hSq.at kp3 (fun h => h); have kgq := hSq.at kg (fun h => h); have kg'q := hSq.at kg' (fun h => h); go_simp; (try with_reducible rfl))); try simp only [zL])
   iterate 3 (refine TG.v0 (v := ?_) (by simp only [zK]; rfl) rfl (by rfl) (fun w1 => ?_) ?_; rotate_left; (next => go_simp; try with_reducible rfl); try simp only [zL])
   (refine TG.load (v := ?v45) (p := ?p45) (by simp only [zK]; rfl) rfl (by rfl) rfl ?hx45 (fun wq hSq => ?y45) ?n45; (case hx45 => simp only [zM]; try rfl); (case y45 => (have kp2q := hSq.at kp2 (fun h => h); have kp3q := hSq.at kp3 (fun h => h); have kgq := hSq.at kg (fun h => h); have kg'q := hSq.at kg' (fun h => h); go_simp; (try with_reducible rfl))); try simp only [zL])
   (refine TG.callN (f := ?f46) (args := ?r46) (fun v => v = .bool true) gK (by simp only [zK]; rfl) rfl (by rfl) (fun w1 => ?y46) (fun T wq kq ltq hSq ub => ?hsp46) ?n46; (case y46 => (go_simp; (first | with_reducible rfl | (constructor <;> with_reducible rfl)))); (case hsp46 => (have kp2q := hSq.at kp2 (fun h => h); have kp3q := hSq.at kp3 (fun h => h); have kgq := hSq.at kg (fun h => h); have kg'q := hSq.at kg' (fun h => h); exact (sameB_c _ _ _ _ _ _ wq (HX2.out.2.1.mod0 hSq) (HY2.out.2.1.mod0 hSq) HX2.out.2.2).mono (fun e w' h => ⟨_, h.1, by simp, h.2⟩))); rintro v46 hC; subst hC; try simp only [zL])
   iterate 2 (refine TG.v0 (v := ?_) (by simp only [zK]; rfl) rfl (by rfl) (fun w1 => ?_) ?_; rotate_left; (next => go_simp; try with_reducible rfl); try simp only [zL])
   refine TG.nil (fun w5 ⟨TR, hr⟩ => ?_)
   replace kp2 := hr.mod.at kp2 (fun h => h)
   replace kp3 := hr.mod.at kp3 (fun h => h)
   replace kg := hr.mod.at kg (fun h => h)
   replace kg' := hr.mod.at kg' (fun h => h)
   clear gK
   have HM5 := Lib.hid (HM.out.then0 hr.mod)
   clear hr c0 c1 c2 c0' c1' c2' kg kg' HX2 HY2
   go_wp2_with fail
   go_roundw
   case rel => exact ⟨i + 1, by omega, by go_num, HM5, kp2, kp3⟩
   case measure => simp [intOf]; omega
  ·have hd := decide_eq_false hlt
   clear hi hlt
   go_wp2_with fail
   go_loopw [6] (fun s6 ws => ∃ i : Nat, i ≤ nL ∧ s6 = .int .i64 (i : Int) ∧ Hid (Mod (fun _ => False) w ws) ∧ ws.heap[p2]? = some (.cells (mgx v0 h0 h1 h2 ka nK kcap rc ia nI ic la nL lc) 33 (0, 0)) ∧ ws.heap[p3]? = some (.cells (mgx v0 h0 h1 h2 ka' nK kcap' rc ia' nI ic' la' nL lc') 33 (0, 0))) (fun s6 _ => nL - (intOf s6).toNat)
   case atStart => exact ⟨0, by omega, rfl, HM, kp2, kp3⟩
   case round =>
    obtain ⟨i, hi, rfl, HM, kp2, kp3⟩ := hrel
    by_cases hlt : i < nL
    ·--{
     have hd := decide_eq_true hlt
     obtain ⟨x, hx⟩ : ∃ x, L[i]? = some x := ⟨_, List.getElem?_eq_getElem (by have := HN.out.2.2.1; omega)⟩
     obtain ⟨y, hy⟩ : ∃ y, L'[i]? = some y := ⟨_, List.getElem?_eq_getElem (by have := HN.out.2.2.2.2.1; omega)⟩
     have hxy : loP x = loP y := by
      have h1 := congrArg (fun z => z[i]?) HN.out.2.2.2.2.2.2
      simp only [List.getElem?_map, hx, hy, Option.map_some] at h1
      exact Option.some.inj h1
     have hX := (HX.out.mod0 HM.out).2.2.2.2 x (List.mem_of_getElem? hx)
     have hY := (HY.out.mod0 HM.out).2.2.2.2 y (List.mem_of_getElem? hy)
     obtain ⟨g, o, C, U, fr, hga, kg, c0, hle, c1, c2⟩ := lo_partsS (HX.out.mod0 HM.out).2.2.1 hx
     obtain ⟨g', o', C', U', fr', hga', kg', c0', hle', c1', c2'⟩ := lo_partsS (HY.out.mod0 HM.out).2.2.1 hy
     simp only at hga hga'
     subst hga
     subst hga'
     obtain ⟨px, ⟨ax, lx, cx⟩, ⟨dx, mx', ex⟩⟩ := x
     obtain ⟨py, ⟨ay, ly, cy⟩, ⟨dy, my, ey⟩⟩ := y
     simp only [loP, LoP.mk.injEq] at hxy
     obtain ⟨rfl, rfl, rfl⟩ := hxy
     simp only at c0 c1 c2 c0' c1' c2' hX hY
     have HX2 := Lib.hid hX
     have HY2 := Lib.hid hY
     clear hx hy hX hY
     go_upto_region 11 with fail
     have Lkp2 := lt_size kp2
     have Lkp3 := lt_size kp3
     have Lkg := lt_size kg
     have Lkg' := lt_size kg'
     refine wp_gpass (T0 := fun _ => False) (K := fun _ _ => True) (κ := fun i => [0, 0, 0, 0, 0, 0, 0, 0, 0, 0, 0, 0, 0, 0, 0, 0, 0, 0, 0, 0, 0, 0, 0, 0, 0, 0, 6, 0, 0, 0, 0, 0, 0, 0, 0, 0, 0, 0, 0, 0, 0, 0, 6, 0, 0].getD i 0) (υ := fun _ => []) [0, 1, 2, 3, 4, 5, 6, 7, 8, 9, 10, 11, 12, 13, 14, 15, 16, 17, 18, 19, 20, 21, 22, 23, 24, 25, 26, 27, 28, 29, 30, 31, 32, 33, 34, 35, 36, 37, 38, 39, 40, 41, 42, 43, 44] (by kernel_rfl) (by kernel_rfl) (Good.true).cl (trivial) (fun _ h => h.elim) ?_
     have gK := Good.true
     (refine TG.v0 (v := ?_) (by simp only [zK]; rfl) rfl (by rfl) (fun w1 => ?_) ?_; rotate_left; (next => go_simp; try with_reducible rfl); try simp only [zL])
     (refine TG.load (v := ?v50) (p := ?p50) (by simp only [zK]; rfl) rfl (by rfl) rfl ?hx50 (fun wq hSq => ?y50) ?n50; (case hx50 => simp only [zM]; try rfl); (case y50 => (have kp2q := hSq.at kp2 (fun h => h); have kp3q := hSq.at kp3 (fun h => h); have kgq := hSq.at kg (fun h => h); have kg'q := hSq.at kg' (fun h => h); go_simp; (try with_reducible rfl))); try simp only [zL])
     iterate 3 (refine TG.v0 (v := ?_) (by simp only [zK]; rfl) rfl (by rfl) (fun w1 => ?_) ?_; rotate_left; (next => go_simp; try with_reducible rfl); try simp only [zL])
     (refine TG.load (v := ?v54) (p := ?p54) (by simp only [zK]; rfl) rfl (by rfl) rfl ?hx54 (fun wq hSq => ?y54) ?n54; (case hx54 => simp only [zM]; try rfl); (case y54 => (have kp2q := hSq.at kp2 (fun h => h); have kp3q := hSq.at kp3 (fun h => h); have kgq := hSq.at kg (fun h => h); have kg'q := hSq.at kg' (fun h => h); go_simp; (try with_reducible rfl))); try simp only [zL])
     (refine TG.v0 (v := ?_) (by simp only [zK]; rfl) rfl (by rfl) (fun w1 => ?_) ?_; rotate_left; (next => go_simp; try with_reducible rfl); try simp only [zL])
     (refine TG.load (v := ?v56) (p := ?p56) (by simp only [zK]; rfl) rfl (by rfl) rfl ?hx56 (fun wq hSq => ?y56) ?n56; (case hx56 => simp only [zM]; try rfl); (case y56 => (have kp2q := hSq.at kp2 (fun h => h); have kp3q := hSq.at kp3 (fun h => h); have kgq := hSq.at kg (fun h => h); have kg'q := hSq.at kg' (fun h => h); go_simp; (try with_reducible rfl))); try simp only [zL])
     iterate 3 (refine TG.v0 (v := ?_) (by simp only [zK]; rfl) rfl (by rfl) (fun w1 => ?_) ?_; rotate_left; (next => go_simp; try with_reducible rfl); try simp only [zL])
     (refine TG.load (v := ?v60) (p := ?p60) (by simp only [zK]; rfl) rfl (by rfl) rfl ?hx60 (fun wq hSq => ?y60) ?n60; (case hx60 => simp only [zM]; try rfl); (case y60 => (have kp2q := hSq.at kp2 (fun h => h); have kp3q := hSq.at kp3 (fun h => h); have kgq := hSq.at kg (fun h => h); have kg'q := hSq.at kg' (fun h => h); go_simp; (try with_reducible rfl))); try simp only [zL])
     iterate 3 (refine TG.v0 (v := ?_) (by simp only [zK]; rfl) rfl (by rfl) (fun w1 => ?_) ?_; rotate_left; (next => go_simp; try with_reducible rfl); try simp only [zL])
     (refine TG.load (v := ?v64) (p := ?p64) (by simp only [zK]; rfl) rfl (by rfl) rfl ?hx64 (fun wq hSq => ?y64) ?n64; (case hx64 => simp only [zM]; try rfl); (case y64 => (have kp2q := hSq.at kp2 (fun h => h); have kp3q := hSq.at kp3 (fun h => h); have kgq := hSq.at kg (fun h => h); have kg'q := hSq.at kg' (fun h => h); go_simp; (try with_reducible rfl))); try simp only [zL])
     iterate 3 (refine TG.v0 (v := ?_) (by simp only [zK]; rfl) rfl (by rfl) (fun w1 => ?_) ?_; rotate_left; (next => go_simp; try with_reducible rfl); try simp only [zL])
     (refine TG.load (v := ?v68) (p := ?p68) (by simp only [zK]; rfl) rfl (by rfl) rfl ?hx68 (fun wq hSq => ?y68) ?n68; (case hx68 => simp only [zM]; try rfl); (case y68 => (have kp2q := hSq.at kp2 (fun h => h); have kp3q := hSq.at kp3 (fun h => h); have kgq := hSq.at kg (fun h => h); have kg'q := hSq.at kg' (fun h => h); go_simp; (try with_reducible rfl))); try simp only [zL])
     (refine TG.v0 (v := ?_) (by simp only [zK]; rfl) rfl (by rfl) (fun w1 => ?_) ?_; rotate_left; (next => go_simp; try with_reducible rfl); try simp only [zL])
     (refine TG.load (v := ?v70) (p := ?p70) (by simp only [zK]; rfl) rfl (by rfl) rfl ?hx70 (fun wq hSq => ?y70) ?n70; (case hx70 => simp only [zM]; try rfl); (case y70 => (have kp2q := hSq.at kp2 (fun h => h); have kp3q := hSq.at kp3 (fun h => h); have kgq := hSq.at kg (fun h => h); have kg'q := hSq.at kg' (fun h => h); go_simp; (try with_reducible rfl))); try simp only [zL])
     iterate 3 (refine TG.v0 (v := ?_) (by simp only [zK]; rfl) rfl (by rfl) (fun w1 => ?_) ?_; rotate_left; (next => go_simp; try with_reducible rfl); try simp only [zL])
     (refine TG.load (v := ?v74) (p := ?p74) (by simp only [zK]; rfl) rfl (by rfl) rfl ?hx74 (fun wq hSq => ?y74) ?n74; (case hx74 => simp only [zM]; try rfl); (case y74 => (have kp2q := hSq.at kp2 (fun h => h); have kp3q := hSq.at kp3 (fun h => h); have kgq := hSq.at kg (fun h => h); have kg'q := hSq.at kg' (fun h => h); go_simp; (try with_reducible rfl))); try simp only [zL])
     (refine TG.callN (f := ?f75) (args := ?r75) (fun v => v = .bool true) gK (by simp only [zK]; rfl) rfl (by rfl) (fun w1 => ?y75) (fun T wq kq ltq hSq ub => ?hsp75) ?n75; (case y75 => (go_simp; (first | with_reducible rfl | (constructor <;> with_reducible rfl)))); (case hsp75 => (have kp2q := hSq.at kp2 (fun h => h); have kp3q := hSq.at kp3 (fun h => h); have kgq := hSq.at kg (fun h => h); have kg'q := hSq.at kg' (fun h => h); exact (sameB_c _ _ _ _ _ _ wq (HX2.out.1.1.mod0 hSq) (HY2.out.1.1.mod0 hSq) HX2.out.1.2).mono (fun e w' h => ⟨_, h.1, by simp, h.2⟩))); rintro v75 hC; subst hC; try simp only [zL])
     iterate 4 (refine TG.v0 (v := ?_) (by simp only [zK]; rfl) rfl (by rfl) (fun w1 => ?_) ?_; rotate_left; (next => go_simp; try with_reducible rfl); try simp only [zL])
     (refine TG.load (v := ?v80) (p := ?p80) (by simp only [zK]; rfl) rfl (by rfl) rfl ?hx80 (fun wq hSq => ?y80) ?n80; (case hx80 => simp only [zM]; try rfl); (case y80 => (have kp2q := hSq.at kp2 (fun h => h); have kp3q := hSq.at kp3 (fun h => h); have kgq := hSq.at kg (fun h => h); have kg'q := hSq.at kg' (fun h => h); go_simp; (try with_reducible rfl))); try simp only [zL])
     iterate 3 (refine TG.v0 (v := ?_) (by simp only [zK]; rfl) rfl (by rfl) (fun w1 => ?_) ?_; rotate_left; (next => go_simp; try with_reducible rfl); try simp only [zL])
     (refine TG.load (v := ?v84) (p := ?p84) (by simp only [zK]; rfl) rfl (by rfl) rfl ?hx84 (fun wq hSq => ?y84) ?n84; (case hx84 => simp only [zM]; try rfl); (case y84 => (have kp2q := hSq.at kp2 (fun h => h); have kp3q := hSq.at kp3 (fun h => h); have kgq := hSq.at kg (fun h => h); have kg'q := hSq.at kg' (fun h => h); go_simp; (try with_reducible rfl))); try simp only [zL])
     (refine TG.v0 (v := ?_) (by simp only [zK]; rfl) rfl (by rfl) (fun w1 => ?_) ?_; rotate_left; (next => go_simp; try with_reducible rfl); try simp only [zL])
     (refine TG.load (v := ?v86) (p := ?p86) (by simp only [zK]; rfl) rfl (by rfl) rfl ?hx86 (fun wq hSq => ?y86) ?n86; (case hx86 => simp only [zM]; try rfl); (case y86 => (have kp2q := hSq.at kp2 (fun h => h); have kp3q := hSq.at kp3 (fun h => h); have kgq := hSq.at kg (fun h => h); have kg'q := hSq.at kg' (fun h => h); go_simp; (try with_reducible rfl))); try simp only [zL])
     iterate 3 (refine TG.v0 (v := ?_) (by simp only [zK]; rfl) rfl (by rfl) (fun w1 => ?_) ?_; rotate_left; (next => go_simp; try with_reducible rfl); try simp only [zL])
     (refine TG.load (v := ?v90) (p := ?p90) (by simp only [zK]; rfl) rfl (by rfl) rfl ?hx90 (fun wq hSq => ?y90) ?n90; (case hx90 => simp only [zM]; try rfl); (case y90 => (have kp2q := hSq.at kp2 (fun h => h); have kp3q := hSq.at kp3 (fun h => h); have kgq := hSq.at kg (fun h => h); have kg'q := hSq.at kg' (fun h => h); go_simp; (try with_reducible rfl))); try simp only [zL])
     (refine TG.callN (f := ?f91) (args := ?r91) (fun v => v = .bool true) gK (by simp only [zK]; rfl) rfl (by rfl) (fun w1 => ?y91) (fun T wq kq ltq hSq ub => ?hsp91) ?n91; (case y91 => (go_simp; (first | with_reducible rfl | (constructor <;> with_reducible rfl)))); (case hsp91 => (have kp2q := hSq.at kp2 (fun h => h); have kp3q := hSq.at kp3 (fun h => h); have kgq := hSq.at kg (fun h => h); have kg'q := hSq.at kg' (fun h => h); exact (sameB_c _ _ _ _ _ _ wq (HX2.out.2.1.mod0 hSq) (HY2.out.2.1.mod0 hSq) HX2.out.2.2).mono (fun e w' h => ⟨_, h.1, by simp, h.2⟩))); rintro v91 hC; subst hC; try simp only [zL])
     iterate 2 (refine TG.v0 (v := ?_) (by simp only [zK]; rfl) rfl (by rfl) (fun w1 => ?_) ?_; rotate_left; (next => go_simp; try with_reducible rfl); try simp only [zL])
     refine TG.nil (fun w5 ⟨TR, hr⟩ => ?_)
     replace kp2 := hr.mod.at kp2 (fun h => h)
     replace kp3 := hr.mod.at kp3 (fun h => h)
     replace kg := hr.mod.at kg (fun h => h)
     replace kg' := hr.mod.at kg' (fun h => h)
     clear gK
     have HM5 := Lib.hid (HM.out.then0 hr.mod)
     clear hr c0 c1 c2 c0' c1' c2' kg kg' HX2 HY2 hle hle'
     go_wp2_with fail
     go_roundw
     case rel => exact ⟨i + 1, by omega, by go_num, HM5, kp2, kp3⟩
     case measure => simp [intOf]; omega
    ·have hd := decide_eq_false hlt
     go_wp2_with fail
     go_ret
     exact ⟨rfl, HM.out⟩
end Go.Proofs.YtiaehkkkcaeaiaaGreatDoor
namespace Go.Proofs.YtiaehkkkcaeaiaaGreatDoor
open Go.RowKit
open Go.ChangeMaps (setBlock)
attribute [local go_sem] cell_blk frozen_blk one_int one_bool one_ptr one_slice one_map Value.cells
attribute [local go_sem ↓] wlKey ldKey stKey wlMsg ldMsg stMsg wlTc ldTc stTc
attribute [local go_sem] kc_ext kc_one kc_one0 kc_size zKey_size one_slice mgx_size mgx_ext mgx_one mgx_one0 mg0 mg1 mg2 mg3 mg4 mg37 mg38 mg37' mg38'
theorem txr_ms (x : RdR) : (txr x).extract 1 40 = msr x := by
 have := part_of (pre := [Value.slice x.sg.a x.sg.l.length x.sg.c]) (mid := (rpre x).drop 2 ++ (x.rc.l.map bc ++ (rpost x).take 2)) (post := []) (a := 1) (b := 40) rfl (by simp [rpre, rpost, x.rc.h])
 simpa [txr, msr, mx, rpre, rpost] using this
attribute [local go_sem] txr_ms txr_size txr_all txr_one txr_one' txr0 txr0'
set_option maxRecDepth 20000 in
set_option maxHeartbeats 3200000 in
theorem sameTx_c (x y : RdR) (w : World) (hx : TxRd w x) (hy : TxRd w y) (hxy : txP x = txP y) : Calls Tryz.prog 17 #[.agg (txr x), .agg (txr y)] w fun e w' => e = .returned (.bool true) ∧ Mod (fun _ => False) w w' := by
 have HX := Lib.hid hx
 have HY := Lib.hid hy
 have hs : x.sg.l = y.sg.l := congrArg TxP.sg hxy
 have hm : msgP x = msgP y := congrArg TxP.m hxy
 have HS := Lib.hid (And.intro hs hm)
 clear hx hy hxy hs hm
 go_enter Tryz.func17, Tryz.ntmps17
 go_upto_region 0 with fail
 refine wp_pass0 (C := fun _ _ _ => False) (κ := fun i => [3, 3, 0].getD i 0) [0, 1, 2] (by kernel_rfl) (by kernel_rfl) (fun _ _ d _ _ h => by cases d <;> first | exact h | exact absurd h (hP _ _ _)) ?_
 (refine TD.box (v := ?v1) (by simp only [zK]; rfl) rfl (by rfl) rfl rfl ?hx1 (fun p2 hp2 => ?n1); (case hx1 => simp only [zM]; try rfl); try simp only [zL])
 (refine TD.box (v := ?v2) (by simp only [zK]; rfl) rfl (by rfl) rfl rfl ?hx2 (fun p3 hp3 => ?n2); (case hx2 => simp only [zM]; try rfl); try simp only [zL])
 obtain ⟨ne_p3_p2, hp3⟩ := Bx.set_none hp3
 (refine TD.val0 (v := ?_) (by simp only [zK]; rfl) rfl (by rfl) (fun w1 => ?_) ?_; rotate_left; (next => go_simp; try with_reducible rfl); try simp only [zL])
 refine TD.nil (fun w1 hr => ?_)
 have kp2 := hr.box p2 _ (by first | exact Bx.set_same _ _ _ | (simp only [Bx.set_ne _ (Ne.symm ne_p3_p2), Bx.set_ne _ ne_p3_p2, Bx.set_same]; rfl)); dsimp only [Value.cells] at kp2; obtain ⟨gp2, kp2⟩ := kp2
 have kp3 := hr.box p3 _ (by first | exact Bx.set_same _ _ _ | (simp only [Bx.set_ne _ (Ne.symm ne_p3_p2), Bx.set_ne _ ne_p3_p2, Bx.set_same]; rfl)); dsimp only [Value.cells] at kp3; obtain ⟨gp3, kp3⟩ := kp3
 have m1 := hr.mod
 clear hr
 have HM1 := Lib.hid m1
 have HC := Lib.hid (sameS_c x.sg.a y.sg.a x.sg.l y.sg.l x.sg.c y.sg.c w1 (HX.out.1.1.mod0 m1) (HY.out.1.1.mod0 m1) HX.out.1.2)
 clear m1
 go_wp2_with fail
 go_at_call 57
 refine HC.out.mono ?_
 rintro e w2 ⟨rfl, m2⟩
 replace kp2 := m2.at0 kp2
 replace kp3 := m2.at0 kp3
 have hdd : decide (x.sg.l = y.sg.l) = true := decide_eq_true HS.out.1
 rw [hdd]
 have HM2 := Lib.hid (HM1.out.trans m2)
 clear m2 HM1 HC hdd
 go_wp2_with fail
 go_at_call 58
 refine (sameMsg_c x y _ (HX.out.mod0 HM2.out).2 (HY.out.mod0 HM2.out).2 HS.out.2).mono ?_
 rintro e w3 ⟨rfl, m3⟩
 have HM3 := Lib.hid (HM2.out.trans m3)
 clear m3
 go_wp2_with fail
 go_ret
 exact ⟨rfl, HM3.out⟩
end Go.Proofs.YtiaehkkkcaeaiaaGreatDoor
namespace Go.Proofs.YtiaehkkkcaeaiaaGreatDoor
open Go.RowKit
open Go.ChangeMaps (setBlock)
attribute [local go_sem ↓] wlKey ldKey stKey ldSg stSg wlTc ldTc stTc eqKey1
attribute [local go_sem] cell_blk frozen_blk kc_ext one_int one_bool one_ptr one_slice one_map kc_one kc_one0 kc_size zKey_size sgc_size sgc_ext sgc_one0 sgc_one' txr_size txr_all txr_one txr_one' txr0 txr38 txr39 txr0' txr38' txr39' zTx_size Value.cells
attribute [local go_sem ↓] wlLo ldLo stLo wlIn ldIn stIn
theorem txr2 (x : RdR) : (txr x)[2]? = some (.int .u8 (x.h0.toNat : Int)) := mx_pre (i := 2) (by simp [rpre])
theorem txr5 (x : RdR) : (txr x)[5]? = some (.slice x.ks.a x.ks.l.length x.ks.c) := mx_pre (i := 5) (by simp [rpre])
theorem txr2' (x : RdR) (h : 2 < (txr x).size) : (txr x)[2] = .int .u8 (x.h0.toNat : Int) := at_get (txr2 x) h
theorem txr5' (x : RdR) (h : 5 < (txr x).size) : (txr x)[5] = .slice x.ks.a x.ks.l.length x.ks.c := at_get (txr5 x) h
theorem txr_hd (x : RdR) : (txr x).extract 2 5 = #[.int .u8 (x.h0.toNat : Int), .int .u8 (x.h1.toNat : Int), .int .u8 (x.h2.toNat : Int)] := by
 have := part_of (pre := ((rpre x).drop 1).take 2) (mid := [u8v x.h0, u8v x.h1, u8v x.h2]) (post := ((rpre x).drop 6) ++ (x.rc.l.map bc ++ (rpost x).take 2)) (a := 2) (b := 5) rfl rfl
 simp [txr, mx, rpre]
theorem lor_size (x : LoR) : (lor x).size = 34 := kx_size _ _
theorem lor_one (x : LoR) : (lor x).all (·.oneCell') 0 34 = true := all_of (lor_size x) (kx_one _ _ rfl)
theorem zLo_size : zLo.size = 34 := lor_size _
theorem lor32' (x : LoR) (h : 32 < (lor x).size) : (lor x)[32] = .slice x.w.a x.w.l.length x.w.c := at_get (lor32 x) h
theorem lor33' (x : LoR) (h : 33 < (lor x).size) : (lor x)[33] = .slice x.r.a x.r.l.length x.r.c := at_get (lor33 x) h
attribute [local go_sem] txr2 txr5 txr2' txr5' txr_hd lor32 lor33 lor32' lor33' zLo_size lor_size lor_one
def loSum (l : List LoR) : Nat := (l.map (fun x => x.w.l.length + x.r.l.length)).sum
theorem loSum_snoc {l : List LoR} {i : Nat} {x : LoR} (h : l[i]? = some x) : loSum (l.take (i + 1)) = loSum (l.take i) + (x.w.l.length + x.r.l.length) := by
 rw [List.take_add_one, h]
 simp [loSum]
theorem loSum_leB {l : List LoR} {B : Nat} (h : ∀ x ∈ l, x.w.l.length + x.r.l.length ≤ B) : ∀ i, loSum (l.take i) ≤ i * B
 | 0 => by simp [loSum]
 | i + 1 => by
  have ih := loSum_leB h i
  rw [Nat.succ_mul]
  cases hx : l[i]? with
  | none =>
   have : l.take (i + 1) = l.take i := by rw [List.take_add_one, hx]; simp
   rw [this]
   omega
  | some x =>
   rw [loSum_snoc hx]
   have := h x (List.mem_of_getElem? hx)
   omega
theorem loSum_le {l : List LoR} (h : ∀ x ∈ l, x.w.l.length ≤ 1000000 ∧ x.r.l.length ≤ 1000000) (i : Nat) : loSum (l.take i) ≤ i * 2000000 := loSum_leB (fun x hx => by have := h x hx; omega) i
theorem tot_eq (x : RdR) : totP (txP x) = x.ks.l.length + loSum x.lks.l := by
 simp [totP, txP, msgP, loSum, loP, List.map_map, Function.comp_def]
set_option maxRecDepth 20000 in
set_option maxHeartbeats 3200000 in
theorem total_c (x : RdR) (w : World) (h : TxRd w x) : Calls Tryz.prog 26 #[.agg (txr x)] w fun e w' => e = .returned (.int .i64 ((totP (txP x) : Nat) : Int)) ∧ Mod (fun _ => False) w w' := by
 rw [tot_eq]
 have HX := Lib.hid h
 obtain ⟨nK, hnK⟩ : ∃ n, x.ks.l.length = n := ⟨_, rfl⟩
 obtain ⟨nL, hnL⟩ : ∃ n, x.lks.l.length = n := ⟨_, rfl⟩
 have hbK : nK ≤ 1000000 := by rw [← hnK]; exact h.2.1.2
 have hbL : nL ≤ 1000000 := by rw [← hnL]; exact h.2.2.2.2.1
 have hT := loSum_le (l := x.lks.l) (fun y hy => ⟨(h.2.2.2.2.2 y hy).1.2, (h.2.2.2.2.2 y hy).2.2⟩)
 have HT := Lib.hid hT
 have HN := Lib.hid (And.intro hnK hnL)
 rw [hnK]
 clear h hT
 go_enter Tryz.func26, Tryz.ntmps26
 go_upto_region 0 with fail
 refine wp_pass0 (C := fun _ _ _ => False) (κ := fun i => [3, 0].getD i 0) [0, 1] (by kernel_rfl) (by kernel_rfl) (fun _ _ d _ _ h => by cases d <;> first | exact h | exact absurd h (hP _ _ _)) ?_
 (refine TD.box (v := ?v1) (by simp only [zK]; rfl) rfl (by rfl) rfl rfl ?hx1 (fun p1 hp1 => ?n1); (case hx1 => simp only [zM]; try rfl); try simp only [zL])
 (refine TD.val0 (v := ?_) (by simp only [zK]; rfl) rfl (by rfl) (fun w1 => ?_) ?_; rotate_left; (next => go_simp; try with_reducible rfl); try simp only [zL])
 refine TD.nil (fun w1 hr => ?_)
 have kp1 := hr.box p1 _ (by first | exact Bx.set_same _ _ _ | (simp only [Bx.set_same]; rfl)); dsimp only [Value.cells] at kp1; obtain ⟨gp1, kp1⟩ := kp1
 have m1 := hr.mod
 clear hr
 go_wp2_with fail
 go_loopw [3, 14] (fun s3 s14 ws => ∃ i t : Nat, i ≤ nL ∧ s14 = .int .i64 (i : Int) ∧ s3 = .int .i64 (t : Int) ∧ Hid (t = nK + loSum (x.lks.l.take i)) ∧ Mod (fun _ => False) w ws) (fun _ s14 _ => nL - (intOf s14).toNat)
 case atStart => exact ⟨0, nK, by omega, rfl, by first | rfl | simp [hnK], Lib.hid (by simp [loSum]), m1⟩
 case round =>
  obtain ⟨i, t, hi, rfl, rfl, HTT, hm⟩ := hrel
  by_cases hlt : i < nL
  ·have hd := decide_eq_true hlt
   obtain ⟨y, hy⟩ : ∃ y, x.lks.l[i]? = some y := ⟨_, List.getElem?_eq_getElem (by omega)⟩
   obtain ⟨g, o, C, U, fr, hga, kg, he, hle⟩ := ((HX.out.mod0 hm).2.2.2.1).block hy
   have hy1 := (HX.out.2.2.2.2.2 y (List.mem_of_getElem? hy)).1.2
   have hy2 := (HX.out.2.2.2.2.2 y (List.mem_of_getElem? hy)).2.2
   have htb : t ≤ 1000000 + i * 2000000 := by have := HT.out i; have := HTT.out; omega
   have HS := Lib.hid (loSum_snoc hy)
   obtain ⟨a, ha⟩ : ∃ a, y.w.l.length = a := ⟨_, rfl⟩
   obtain ⟨b, hb⟩ : ∃ b, y.r.l.length = b := ⟨_, rfl⟩
   rw [ha] at hy1
   rw [hb] at hy2
   have hw1 : IntKind.i64.wrap ((a : Int) + (b : Int)) = ((a + b : Nat) : Int) := by rw [IntKind.wrap_i64]; omega
   obtain ⟨s, hs⟩ : ∃ s, a + b = s := ⟨_, rfl⟩
   rw [hs] at hw1
   have hw2 : IntKind.i64.wrap ((t : Int) + (s : Int)) = ((t + s : Nat) : Int) := by rw [IntKind.wrap_i64]; omega
   clear hy
   go_upto_region 4 with fail
   have Lkg := lt_size kg
   refine wp_pass0 (C := fun _ _ _ => False) (κ := fun i => [0, 1, 3, 4].getD i 0) [0, 1, 2, 3] (by kernel_rfl) (by kernel_rfl) (fun _ _ d _ _ h => by cases d <;> first | exact h | exact absurd h (hP _ _ _)) ?_
   (refine TD.val0 (v := ?_) (by simp only [zK]; rfl) rfl (by rfl) (fun w1 => ?_) ?_; rotate_left; (next => go_simp; try with_reducible rfl); try simp only [zL])
   (refine TD.load (v := ?_) (p := ?_) (Mod.refl _ _) (by simp only [zK]; rfl) rfl (by rfl) rfl ?_ (fun wq hSq => ?_) ?_; rotate_left 2; (next => simp only [zM]; try rfl); (next => have kgq := hSq.at kg (fun h => h); go_simp; try with_reducible rfl); try simp only [zL])
   (refine TD.allocB (by simp only [zK]; rfl) rfl (by rfl) rfl rfl alLo (fun p5 hp5 => ?n5); try simp only [zL])
   (refine TD.storeB (d := ?d6) (T := ?T6) (y := ?y6) (p := ?p6) (b := ?b6) (v := ?v6) (by simp only [zK]; rfl) rfl (by rfl) ?hd6 ?hop6 ?hev6 ?hx6 ?hb6 ?htag6 (fun w1 hb1 => ?hy6) ?hn6; (case hd6 => rfl); (case hop6 => rfl); (case hev6 => (simp only [zM]; (try rfl))); (case hx6 => simp only [zM]; try rfl); (case hb6 => first | exact Bx.set_same _ _ _ | (simp only [Bx.set_same]; rfl)); (case hy6 => (go_simp; (try first | with_reducible rfl | (rw [setCell_blk hb1]; rfl)))); try simp only [zL])
   refine TD.nil (fun w3 hr => ?_)
   replace kg := hr.mod.at kg (fun h => h)
   have kp5 := hr.box p5 _ (by first | exact Bx.set_same _ _ _ | (simp only [Bx.set_same]; rfl)); dsimp only [Value.cells] at kp5; obtain ⟨gp5, kp5⟩ := kp5
   have hm3 := hm.then0 hr.mod
   clear hr he hle kg
   go_wp2_with fail
   go_roundw
   case rel => exact ⟨i + 1, t + s, by omega, by go_num, rfl, Lib.hid (by rw [HS.out, HTT.out]; omega), hm3⟩
   case measure => simp [intOf]; omega
  ·obtain rfl : nL = i := by omega
   have HE : Hid (t = nK + loSum x.lks.l) := Lib.hid (by
    have := HTT.out
    rw [List.take_of_length_le (by omega)] at this
    exact this)
   go_wp2_with fail
   go_ret
   exact ⟨by rw [HE.out]; rfl, hm⟩
set_option maxRecDepth 20000 in
theorem signed_c (x : RdR) (w : World) : Calls Tryz.prog 66 #[.agg (txr x)] w fun e w' => e = .returned (.bool (signedP (txP x))) ∧ Mod (fun _ => False) w w' := by
 have hP : signedP (txP x) = (decide (0 < x.h0.toNat) && decide (x.sg.l.length = x.h0.toNat)) := rfl
 rw [hP]
 obtain ⟨n, hn⟩ : ∃ n, x.sg.l.length = n := ⟨_, rfl⟩
 obtain ⟨k, hk⟩ : ∃ k, x.h0.toNat = k := ⟨_, rfl⟩
 have hkb : k < 256 := by rw [← hk]; exact x.h0.toNat_lt
 have hw : IntKind.i64.wrap (k : Int) = (k : Int) := by rw [IntKind.wrap_i64]; omega
 rw [hn, hk]
 go_enter Tryz.func66, Tryz.ntmps66
 go_upto_region 0 with fail
 refine wp_pass0 (C := fun _ _ _ => False) (κ := fun i => [3, 0].getD i 0) [0, 1] (by kernel_rfl) (by kernel_rfl) (fun _ _ d _ _ h => by cases d <;> first | exact h | exact absurd h (hP _ _ _)) ?_
 (refine TD.box (v := ?v7) (by simp only [zK]; rfl) rfl (by rfl) rfl rfl ?hx7 (fun p1 hp1 => ?n7); (case hx7 => simp only [zM]; try rfl); try simp only [zL])
 (refine TD.val0 (v := ?_) (by simp only [zK]; rfl) rfl (by rfl) (fun w1 => ?_) ?_; rotate_left; (next => go_simp; try with_reducible rfl); try simp only [zL])
 refine TD.nil (fun w1 hr => ?_)
 have kp1 := hr.box p1 _ (by first | exact Bx.set_same _ _ _ | (simp only [Bx.set_same]; rfl)); dsimp only [Value.cells] at kp1; obtain ⟨gp1, kp1⟩ := kp1
 have m1 := hr.mod
 clear hr
 by_cases h0 : 0 < k
 ·have hd1 := decide_eq_true h0
  by_cases h1 : n = k
  ·have hd2 := decide_eq_true h1
   go_wp2_with fail
   go_ret
   exact ⟨by first | rfl | (simp [h0, h1]; done) | (simp [h0, h1]; omega), m1⟩
  ·have hd2 := decide_eq_false h1
   go_wp2_with fail
   go_ret
   exact ⟨by first | rfl | (simp [h0, h1]; done) | (simp [h0, h1]; omega), m1⟩
 ·have hd1 := decide_eq_false h0
  go_wp2_with fail
  go_ret
  exact ⟨by first | rfl | (simp [h0]; done) | (simp [h0]; omega), m1⟩
set_option maxRecDepth 20000 in
theorem few_c (x : RdR) (w : World) (h : TxRd w x) : Calls Tryz.prog 69 #[.agg (txr x)] w fun e w' => e = .returned (.bool (fewP (txP x))) ∧ Mod (fun _ => False) w w' := by
 have HX := Lib.hid h
 clear h
 unfold fewP
 obtain ⟨t, ht⟩ : ∃ t, totP (txP x) = t := ⟨_, rfl⟩
 rw [ht]
 go_enter Tryz.func69, Tryz.ntmps69
 go_upto_region 0 with fail
 refine wp_pass0 (C := fun _ _ _ => False) (κ := fun i => [3, 0].getD i 0) [0, 1] (by kernel_rfl) (by kernel_rfl) (fun _ _ d _ _ h => by cases d <;> first | exact h | exact absurd h (hP _ _ _)) ?_
 (refine TD.box (v := ?v9) (by simp only [zK]; rfl) rfl (by rfl) rfl rfl ?hx9 (fun p1 hp1 => ?n9); (case hx9 => simp only [zM]; try rfl); try simp only [zL])
 (refine TD.val0 (v := ?_) (by simp only [zK]; rfl) rfl (by rfl) (fun w1 => ?_) ?_; rotate_left; (next => go_simp; try with_reducible rfl); try simp only [zL])
 refine TD.nil (fun w1 hr => ?_)
 have kp1 := hr.box p1 _ (by first | exact Bx.set_same _ _ _ | (simp only [Bx.set_same]; rfl)); dsimp only [Value.cells] at kp1; obtain ⟨gp1, kp1⟩ := kp1
 have m1 := hr.mod
 clear hr
 go_wp2_with fail
 go_at_call 26
 refine (total_c x _ (HX.out.mod0 m1)).mono ?_
 rintro e w2 ⟨rfl, m2⟩
 have m3 := m1.trans m2
 rw [ht]
 go_wp2_with fail
 go_ret
 exact ⟨by first | rfl | (simp; done) | (simp; omega), m3⟩
end Go.Proofs.YtiaehkkkcaeaiaaGreatDoor
namespace Go.Proofs.YtiaehkkkcaeaiaaGreatDoor
open Go.RowKit
open Go.ChangeMaps (setBlock)
attribute [local go_sem ↓] wlKey ldKey stKey ldSg stSg wlTc ldTc stTc eqKey1
attribute [local go_sem] cell_blk frozen_blk kc_ext one_int one_bool one_ptr one_slice one_map kc_one kc_one0 kc_size zKey_size sgc_size sgc_ext sgc_one0 sgc_one' txr_size txr_all txr_one txr_one' txr0 txr38 txr39 txr0' txr38' txr39' zTx_size Value.cells
attribute [local go_sem ↓] wlLo ldLo stLo wlIn ldIn stIn
theorem inrR_size (y : InR) : (inr y).size = 3 := rfl
theorem inrR_all (y : InR) : (inr y).extract 0 3 = inr y := rfl
theorem zInR_size : zIn.size = 3 := rfl
attribute [local go_sem] txr2 txr5 txr2' txr5' txr_hd lor32 lor33 lor32' lor33' zLo_size lor_size lor_one inrR_size inrR_all zInR_size
set_option maxRecDepth 20000 in
set_option maxHeartbeats 1600000 in
theorem idxL_c  (a : Option Addr) (l : List LoR) (c : Nat) (w : World) (hl : SlAt lor 34 w a l) (hb : l.length ≤ 1000000) (p : LoR → Bool) (hF : ∀ y ∈ l, ∀ w1, Mod (fun _ => False) w w1 → Calls Tryz.prog 110 #[.agg (lor y)] w1 fun e w' => e = .returned (.bool (p y)) ∧ Mod (fun _ => False) w1 w') :
  Calls Tryz.prog 130 #[.slice a l.length c, .func (.func 110) #[] #[]] w fun e w' => (∃ r : Int, e = .returned (.int .i64 r) ∧ decide (r ≥ 0) = l.any p) ∧ Mod (fun _ => False) w w' := by
 obtain ⟨n, hn⟩ : ∃ n, l.length = n := ⟨_, rfl⟩
 have HL := Lib.hid (And.intro hl (And.intro hF hn))
 rw [hn] at hb ⊢
 clear hl hF hn
 go_enter Tryz.func130, Tryz.ntmps130
 go_wp2_with fail
 go_loopw [8] (fun s8 ws => ∃ i : Nat, i ≤ n ∧ s8 = .int .i64 (i : Int) ∧ Hid ((l.take i).any p = false) ∧ Mod (fun _ => False) w ws) (fun s8 _ => n - (intOf s8).toNat)
 case atStart => exact ⟨0, Nat.zero_le _, rfl, Lib.hid (by simp), Mod.refl _ _⟩
 case round =>
  obtain ⟨i, hi, rfl, HN, hm⟩ := hrel
  by_cases hlt : i < n
  ·have hd := decide_eq_true hlt
   obtain ⟨y, hy⟩ : ∃ y, l[i]? = some y := ⟨_, List.getElem?_eq_getElem (by have := HL.out.2.2; omega)⟩
   obtain ⟨g, o, C, U, fr, ha, kg, he, hle⟩ := (HL.out.1.mod0 hm).block hy
   have HY := Lib.hid hy
   have HM := Lib.hid hm
   subst ha
   skip
   clear hy hm
   go_wp2_with fail
   go_at_call 110
   refine (HL.out.2.1 y (List.mem_of_getElem? HY.out) _ HM.out).mono ?_
   rintro e w2 ⟨rfl, m2⟩
   have hm2 := HM.out.trans m2
   have HT := Lib.hid (show (l.take (i + 1)).any p = ((l.take i).any p || p y) by rw [List.take_add_one, HY.out]; simp)
   have HW : Hid (p y = true → l.any p = true) := Lib.hid (fun h => List.any_eq_true.2 ⟨y, List.mem_of_getElem? HY.out, h⟩)
   clear m2
   cases hp : p y with
   | true =>
    have HA := Lib.hid (HW.out hp)
    clear hp
    go_wp2_with fail
    go_ret
    exact ⟨⟨_, rfl, by rw [HA.out]; exact decide_eq_true (by omega)⟩, hm2⟩
   | false =>
    have HT2 : Hid ((l.take (i + 1)).any p = false) := Lib.hid (by rw [HT.out, HN.out, hp]; rfl)
    clear hp
    go_wp2_with fail
    go_roundw
    case rel => exact ⟨i + 1, by omega, by go_num, HT2, hm2⟩
    case measure => simp [intOf]; omega
  ·have hd := decide_eq_false hlt
   have HE : Hid (l.any p = false) := Lib.hid (by
    have := HN.out
    rw [List.take_of_length_le (by have := HL.out.2.2; omega)] at this
    exact this)
   clear HL HN
   go_wp2_with fail
   go_ret
   exact ⟨⟨_, rfl, by rw [HE.out]; rfl⟩, hm⟩
set_option maxRecDepth 20000 in
theorem contL_c  (a : Option Addr) (l : List LoR) (c : Nat) (w : World) (hl : SlAt lor 34 w a l) (hb : l.length ≤ 1000000) (p : LoR → Bool) (hF : ∀ y ∈ l, ∀ w1, Mod (fun _ => False) w w1 → Calls Tryz.prog 110 #[.agg (lor y)] w1 fun e w' => e = .returned (.bool (p y)) ∧ Mod (fun _ => False) w1 w') :
  Calls Tryz.prog 109 #[.slice a l.length c, .func (.func 110) #[] #[]] w fun e w' => e = .returned (.bool (l.any p)) ∧ Mod (fun _ => False) w w' := by
 have HI := Lib.hid (idxL_c  a l c w hl hb p hF)
 obtain ⟨n, hn⟩ : ∃ n, l.length = n := ⟨_, rfl⟩
 obtain ⟨b, hbb⟩ : ∃ b, l.any p = b := ⟨_, rfl⟩
 have hI := HI.out
 simp only [hn, hbb] at hI
 have HI2 := Lib.hid hI
 rw [hn, hbb]
 clear hl hF hb hI HI hn hbb
 go_enter Tryz.func109, Tryz.ntmps109
 go_wp2_with fail
 go_at_call 130
 refine HI2.out.mono ?_
 rintro e w2 ⟨⟨r, rfl, hr⟩, m2⟩
 go_wp2_with fail
 go_ret
 exact ⟨by first | rfl | (rw [← hr]) | simp_all, m2⟩
set_option maxRecDepth 20000 in
set_option maxHeartbeats 1600000 in
theorem idxI_c (q1 q2 : Nat) (a : Option Addr) (l : List InR) (c : Nat) (w : World) (hl : SlAt inr 3 w a l) (hb : l.length ≤ 1000000) (p : InR → Bool) (hF : ∀ y ∈ l, ∀ w1, Mod (fun _ => False) w w1 → Calls Tryz.prog 112 #[.agg (inr y), pV q1, pV q2] w1 fun e w' => e = .returned (.bool (p y)) ∧ Mod (fun _ => False) w1 w') :
  Calls Tryz.prog 131 #[.slice a l.length c, .func (.func 112) #[] #[pV q1, pV q2]] w fun e w' => (∃ r : Int, e = .returned (.int .i64 r) ∧ decide (r ≥ 0) = l.any p) ∧ Mod (fun _ => False) w w' := by
 obtain ⟨n, hn⟩ : ∃ n, l.length = n := ⟨_, rfl⟩
 have HL := Lib.hid (And.intro hl (And.intro hF hn))
 rw [hn] at hb ⊢
 clear hl hF hn
 go_enter Tryz.func131, Tryz.ntmps131
 go_wp2_with fail
 go_loopw [8] (fun s8 ws => ∃ i : Nat, i ≤ n ∧ s8 = .int .i64 (i : Int) ∧ Hid ((l.take i).any p = false) ∧ Mod (fun _ => False) w ws) (fun s8 _ => n - (intOf s8).toNat)
 case atStart => exact ⟨0, Nat.zero_le _, rfl, Lib.hid (by simp), Mod.refl _ _⟩
 case round =>
  obtain ⟨i, hi, rfl, HN, hm⟩ := hrel
  by_cases hlt : i < n
  ·have hd := decide_eq_true hlt
   obtain ⟨y, hy⟩ : ∃ y, l[i]? = some y := ⟨_, List.getElem?_eq_getElem (by have := HL.out.2.2; omega)⟩
   obtain ⟨g, o, C, U, fr, ha, kg, he, hle⟩ := (HL.out.1.mod0 hm).block hy
   have HY := Lib.hid hy
   have HM := Lib.hid hm
   subst ha
   skip
   clear hy hm
   go_wp2_with fail
   go_at_call 112
   refine (HL.out.2.1 y (List.mem_of_getElem? HY.out) _ HM.out).mono ?_
   rintro e w2 ⟨rfl, m2⟩
   have hm2 := HM.out.trans m2
   have HT := Lib.hid (show (l.take (i + 1)).any p = ((l.take i).any p || p y) by rw [List.take_add_one, HY.out]; simp)
   have HW : Hid (p y = true → l.any p = true) := Lib.hid (fun h => List.any_eq_true.2 ⟨y, List.mem_of_getElem? HY.out, h⟩)
   clear m2
   cases hp : p y with
   | true =>
    have HA := Lib.hid (HW.out hp)
    clear hp
    go_wp2_with fail
    go_ret
    exact ⟨⟨_, rfl, by rw [HA.out]; exact decide_eq_true (by omega)⟩, hm2⟩
   | false =>
    have HT2 : Hid ((l.take (i + 1)).any p = false) := Lib.hid (by rw [HT.out, HN.out, hp]; rfl)
    clear hp
    go_wp2_with fail
    go_roundw
    case rel => exact ⟨i + 1, by omega, by go_num, HT2, hm2⟩
    case measure => simp [intOf]; omega
  ·have hd := decide_eq_false hlt
   have HE : Hid (l.any p = false) := Lib.hid (by
    have := HN.out
    rw [List.take_of_length_le (by have := HL.out.2.2; omega)] at this
    exact this)
   clear HL HN
   go_wp2_with fail
   go_ret
   exact ⟨⟨_, rfl, by rw [HE.out]; rfl⟩, hm⟩
set_option maxRecDepth 20000 in
theorem contI_c (q1 q2 : Nat) (a : Option Addr) (l : List InR) (c : Nat) (w : World) (hl : SlAt inr 3 w a l) (hb : l.length ≤ 1000000) (p : InR → Bool) (hF : ∀ y ∈ l, ∀ w1, Mod (fun _ => False) w w1 → Calls Tryz.prog 112 #[.agg (inr y), pV q1, pV q2] w1 fun e w' => e = .returned (.bool (p y)) ∧ Mod (fun _ => False) w1 w') :
  Calls Tryz.prog 111 #[.slice a l.length c, .func (.func 112) #[] #[pV q1, pV q2]] w fun e w' => e = .returned (.bool (l.any p)) ∧ Mod (fun _ => False) w w' := by
 have HI := Lib.hid (idxI_c q1 q2 a l c w hl hb p hF)
 obtain ⟨n, hn⟩ : ∃ n, l.length = n := ⟨_, rfl⟩
 obtain ⟨b, hbb⟩ : ∃ b, l.any p = b := ⟨_, rfl⟩
 have hI := HI.out
 simp only [hn, hbb] at hI
 have HI2 := Lib.hid hI
 rw [hn, hbb]
 clear hl hF hb hI HI hn hbb
 go_enter Tryz.func111, Tryz.ntmps111
 go_wp2_with fail
 go_at_call 131
 refine HI2.out.mono ?_
 rintro e w2 ⟨⟨r, rfl, hr⟩, m2⟩
 go_wp2_with fail
 go_ret
 exact ⟨by first | rfl | (rw [← hr]) | simp_all, m2⟩
set_option maxRecDepth 20000 in
set_option maxHeartbeats 1600000 in
theorem idxB_c (q1 : Nat) (a : Option Addr) (l : List UInt8) (c : Nat) (w : World) (hl : SlAt uc 1 w a l) (hb : l.length ≤ 1000000) (p : UInt8 → Bool) (hF : ∀ y ∈ l, ∀ w1, Mod (fun _ => False) w w1 → Calls Tryz.prog 113 #[u8v y, pV q1] w1 fun e w' => e = .returned (.bool (p y)) ∧ Mod (fun _ => False) w1 w') :
  Calls Tryz.prog 132 #[.slice a l.length c, .func (.func 113) #[] #[pV q1]] w fun e w' => (∃ r : Int, e = .returned (.int .i64 r) ∧ decide (r ≥ 0) = l.any p) ∧ Mod (fun _ => False) w w' := by
 obtain ⟨n, hn⟩ : ∃ n, l.length = n := ⟨_, rfl⟩
 have HL := Lib.hid (And.intro hl (And.intro hF hn))
 rw [hn] at hb ⊢
 clear hl hF hn
 go_enter Tryz.func132, Tryz.ntmps132
 go_wp2_with fail
 go_loopw [8] (fun s8 ws => ∃ i : Nat, i ≤ n ∧ s8 = .int .i64 (i : Int) ∧ Hid ((l.take i).any p = false) ∧ Mod (fun _ => False) w ws) (fun s8 _ => n - (intOf s8).toNat)
 case atStart => exact ⟨0, Nat.zero_le _, rfl, Lib.hid (by simp), Mod.refl _ _⟩
 case round =>
  obtain ⟨i, hi, rfl, HN, hm⟩ := hrel
  by_cases hlt : i < n
  ·have hd := decide_eq_true hlt
   obtain ⟨y, hy⟩ : ∃ y, l[i]? = some y := ⟨_, List.getElem?_eq_getElem (by have := HL.out.2.2; omega)⟩
   obtain ⟨g, o, C, U, fr, ha, kg, he, hle⟩ := (HL.out.1.mod0 hm).block hy
   have HY := Lib.hid hy
   have HM := Lib.hid hm
   subst ha
   have c0:=cellC (j:=0) he (v:=u8v y) rfl;simp only [Nat.mul_one,Nat.add_zero] at c0
   clear hy hm
   go_wp2_with fail
   go_at_call 113
   refine (HL.out.2.1 y (List.mem_of_getElem? HY.out) _ HM.out).mono ?_
   rintro e w2 ⟨rfl, m2⟩
   have hm2 := HM.out.trans m2
   have HT := Lib.hid (show (l.take (i + 1)).any p = ((l.take i).any p || p y) by rw [List.take_add_one, HY.out]; simp)
   have HW : Hid (p y = true → l.any p = true) := Lib.hid (fun h => List.any_eq_true.2 ⟨y, List.mem_of_getElem? HY.out, h⟩)
   clear m2
   cases hp : p y with
   | true =>
    have HA := Lib.hid (HW.out hp)
    clear hp
    go_wp2_with fail
    go_ret
    exact ⟨⟨_, rfl, by rw [HA.out]; exact decide_eq_true (by omega)⟩, hm2⟩
   | false =>
    have HT2 : Hid ((l.take (i + 1)).any p = false) := Lib.hid (by rw [HT.out, HN.out, hp]; rfl)
    clear hp
    go_wp2_with fail
    go_roundw
    case rel => exact ⟨i + 1, by omega, by go_num, HT2, hm2⟩
    case measure => simp [intOf]; omega
  ·have hd := decide_eq_false hlt
   have HE : Hid (l.any p = false) := Lib.hid (by
    have := HN.out
    rw [List.take_of_length_le (by have := HL.out.2.2; omega)] at this
    exact this)
   clear HL HN
   go_wp2_with fail
   go_ret
   exact ⟨⟨_, rfl, by rw [HE.out]; rfl⟩, hm⟩
set_option maxRecDepth 20000 in
theorem contB_c (q1 : Nat) (a : Option Addr) (l : List UInt8) (c : Nat) (w : World) (hl : SlAt uc 1 w a l) (hb : l.length ≤ 1000000) (p : UInt8 → Bool) (hF : ∀ y ∈ l, ∀ w1, Mod (fun _ => False) w w1 → Calls Tryz.prog 113 #[u8v y, pV q1] w1 fun e w' => e = .returned (.bool (p y)) ∧ Mod (fun _ => False) w1 w') :
  Calls Tryz.prog 114 #[.slice a l.length c, .func (.func 113) #[] #[pV q1]] w fun e w' => e = .returned (.bool (l.any p)) ∧ Mod (fun _ => False) w w' := by
 have HI := Lib.hid (idxB_c q1 a l c w hl hb p hF)
 obtain ⟨n, hn⟩ : ∃ n, l.length = n := ⟨_, rfl⟩
 obtain ⟨b, hbb⟩ : ∃ b, l.any p = b := ⟨_, rfl⟩
 have hI := HI.out
 simp only [hn, hbb] at hI
 have HI2 := Lib.hid hI
 rw [hn, hbb]
 clear hl hF hb hI HI hn hbb
 go_enter Tryz.func114, Tryz.ntmps114
 go_wp2_with fail
 go_at_call 132
 refine HI2.out.mono ?_
 rintro e w2 ⟨⟨r, rfl, hr⟩, m2⟩
 go_wp2_with fail
 go_ret
 exact ⟨by first | rfl | (rw [← hr]) | simp_all, m2⟩
end Go.Proofs.YtiaehkkkcaeaiaaGreatDoor
namespace Go.Proofs.YtiaehkkkcaeaiaaGreatDoor
open Go.RowKit
open Go.ChangeMaps (setBlock)
attribute [local go_sem ↓] wlKey ldKey stKey ldSg stSg wlTc ldTc stTc eqKey1
attribute [local go_sem] cell_blk frozen_blk kc_ext one_int one_bool one_ptr one_slice one_map kc_one kc_one0 kc_size zKey_size sgc_size sgc_ext sgc_one0 sgc_one' txr_size txr_all txr_one txr_one' txr0 txr38 txr39 txr0' txr38' txr39' zTx_size Value.cells
attribute [local go_sem ↓] wlLo ldLo stLo wlIn ldIn stIn wlHdr ldHdr stHdr
attribute [local go_sem] txr2 txr5 txr2' txr5' txr_hd lor32 lor33 lor32' lor33' zLo_size lor_size lor_one inrR_size inrR_all zInR_size
theorem inrR0 (y : InR) : (inr y)[0]? = some (.int .u8 (y.p.toNat : Int)) := rfl
theorem inrR1 (y : InR) : (inr y)[1]? = some (.slice y.a.a y.a.l.length y.a.c) := rfl
theorem inrR0' (y : InR) (h : 0 < (inr y).size) : (inr y)[0] = .int .u8 (y.p.toNat : Int) := rfl
theorem inrR1' (y : InR) (h : 1 < (inr y).size) : (inr y)[1] = .slice y.a.a y.a.l.length y.a.c := rfl
theorem zHdrR_size : zHdr.size = 3 := rfl
attribute [local go_sem] inrR0 inrR1 inrR0' inrR1' zHdrR_size
set_option maxRecDepth 20000 in
theorem looked1_c (y : LoR) (w : World) (h1 : y.w.l.length ≤ 1000000) (h2 : y.r.l.length ≤ 1000000) : Calls Tryz.prog 110 #[.agg (lor y)] w fun e w' => e = .returned (.bool (decide (y.w.l.length + y.r.l.length = 0))) ∧ Mod (fun _ => False) w w' := by
 obtain ⟨a, ha⟩ : ∃ a, y.w.l.length = a := ⟨_, rfl⟩
 obtain ⟨b, hb⟩ : ∃ b, y.r.l.length = b := ⟨_, rfl⟩
 rw [ha] at h1 ⊢
 rw [hb] at h2 ⊢
 have hw1 : IntKind.i64.wrap ((a : Int) + (b : Int)) = ((a + b : Nat) : Int) := by rw [IntKind.wrap_i64]; omega
 obtain ⟨s, hs⟩ : ∃ s, a + b = s := ⟨_, rfl⟩
 rw [hs] at hw1 ⊢
 have HS := Lib.hid hs
 clear hs
 go_enter Tryz.func110, Tryz.ntmps110
 go_upto_region 0 with fail
 refine wp_pass0 (C := fun _ _ _ => False) (κ := fun i => [3, 0].getD i 0) [0, 1] (by kernel_rfl) (by kernel_rfl) (fun _ _ d _ _ h => by cases d <;> first | exact h | exact absurd h (hP _ _ _)) ?_
 (refine TD.box (v := ?v1) (by simp only [zK]; rfl) rfl (by rfl) rfl rfl ?hx1 (fun p1 hp1 => ?n1); (case hx1 => simp only [zM]; try rfl); try simp only [zL])
 (refine TD.val0 (v := ?_) (by simp only [zK]; rfl) rfl (by rfl) (fun w1 => ?_) ?_; rotate_left; (next => go_simp; try with_reducible rfl); try simp only [zL])
 refine TD.nil (fun w1 hr => ?_)
 have kp1 := hr.box p1 _ (by first | exact Bx.set_same _ _ _ | (simp only [Bx.set_same]; rfl)); dsimp only [Value.cells] at kp1; obtain ⟨gp1, kp1⟩ := kp1
 have m1 := hr.mod
 clear hr
 by_cases h0 : s = 0
 ·have hd1 := decide_eq_true h0
  have hd2 : decide ((s : Int) = 0) = true := decide_eq_true (by omega)
  go_wp2_with fail
  go_ret
  exact ⟨by first | rfl | (simp [h0]; done) | (simp [h0]; omega), m1⟩
 ·have hd1 := decide_eq_false h0
  have hd2 : decide ((s : Int) = 0) = false := decide_eq_false (by omega)
  go_wp2_with fail
  go_ret
  exact ⟨by first | rfl | (simp [h0]; done) | (simp [h0]; omega), m1⟩
theorem looked_eq (x : RdR) : lookedP (txP x) = !(x.lks.l.any (fun y => decide (y.w.l.length + y.r.l.length = 0))) := by
 unfold lookedP
 show (x.lks.l.map loP).all _ = _
 rw [List.all_map, List.not_any_eq_all_not]
 congr 1
 funext y
 show decide (¬ (y.w.l.length + y.r.l.length = 0)) = !decide (y.w.l.length + y.r.l.length = 0)
 rw [decide_not]
set_option maxRecDepth 20000 in
theorem looked_c (x : RdR) (w : World) (h : TxRd w x) : Calls Tryz.prog 68 #[.agg (txr x)] w fun e w' => e = .returned (.bool (lookedP (txP x))) ∧ Mod (fun _ => False) w w' := by
 rw [looked_eq]
 have HX := Lib.hid h
 clear h
 obtain ⟨b, hb⟩ : ∃ b, x.lks.l.any (fun y => decide (y.w.l.length + y.r.l.length = 0)) = b := ⟨_, rfl⟩
 rw [hb]
 go_enter Tryz.func68, Tryz.ntmps68
 go_upto_region 0 with fail
 refine wp_pass0 (C := fun _ _ _ => False) (κ := fun i => [3, 0].getD i 0) [0, 1] (by kernel_rfl) (by kernel_rfl) (fun _ _ d _ _ h => by cases d <;> first | exact h | exact absurd h (hP _ _ _)) ?_
 (refine TD.box (v := ?v3) (by simp only [zK]; rfl) rfl (by rfl) rfl rfl ?hx3 (fun p1 hp1 => ?n3); (case hx3 => simp only [zM]; try rfl); try simp only [zL])
 (refine TD.val0 (v := ?_) (by simp only [zK]; rfl) rfl (by rfl) (fun w1 => ?_) ?_; rotate_left; (next => go_simp; try with_reducible rfl); try simp only [zL])
 refine TD.nil (fun w1 hr => ?_)
 have kp1 := hr.box p1 _ (by first | exact Bx.set_same _ _ _ | (simp only [Bx.set_same]; rfl)); dsimp only [Value.cells] at kp1; obtain ⟨gp1, kp1⟩ := kp1
 have m1 := hr.mod
 clear hr
 have HC := Lib.hid (contL_c x.lks.a x.lks.l x.lks.c w1 (HX.out.mod0 m1).2.2.2.1 HX.out.2.2.2.2.1 (fun y => decide (y.w.l.length + y.r.l.length = 0)) (fun y hy w2 _ => looked1_c y w2 (HX.out.2.2.2.2.2 y hy).1.2 (HX.out.2.2.2.2.2 y hy).2.2))
 have hC := HC.out
 rw [hb] at hC
 have HC2 := Lib.hid hC
 clear hC HC hb
 go_wp2_with fail
 go_at_call 109
 refine HC2.out.mono ?_
 rintro e w2 ⟨rfl, m2⟩
 have m3 := m1.trans m2
 go_wp2_with fail
 go_ret
 exact ⟨by first | rfl | (simp; done) | (cases b <;> rfl), m3⟩
set_option maxRecDepth 20000 in
theorem headed_c (x : RdR) (w : World) : Calls Tryz.prog 67 #[.agg (txr x)] w fun e w' => e = .returned (.bool (headedP (txP x))) ∧ Mod (fun _ => False) w w' := by
 have hP : headedP (txP x) = (decide (x.h1.toNat < x.h0.toNat) && decide (x.h0.toNat + x.h2.toNat ≤ x.ks.l.length)) := rfl
 rw [hP]
 obtain ⟨n, hn⟩ : ∃ n, x.ks.l.length = n := ⟨_, rfl⟩
 obtain ⟨a, ha⟩ : ∃ k, x.h0.toNat = k := ⟨_, rfl⟩
 obtain ⟨b, hb⟩ : ∃ k, x.h1.toNat = k := ⟨_, rfl⟩
 obtain ⟨c, hc⟩ : ∃ k, x.h2.toNat = k := ⟨_, rfl⟩
 have hab : a < 256 := by rw [← ha]; exact x.h0.toNat_lt
 have hcb : c < 256 := by rw [← hc]; exact x.h2.toNat_lt
 have hwa : IntKind.i64.wrap (a : Int) = (a : Int) := by rw [IntKind.wrap_i64]; omega
 have hwc : IntKind.i64.wrap (c : Int) = (c : Int) := by rw [IntKind.wrap_i64]; omega
 have hws : IntKind.i64.wrap ((a : Int) + (c : Int)) = ((a + c : Nat) : Int) := by rw [IntKind.wrap_i64]; omega
 obtain ⟨s, hs⟩ : ∃ s, a + c = s := ⟨_, rfl⟩
 rw [hn, ha, hb, hc, hs]
 rw [hs] at hws
 have HS := Lib.hid hs
 clear hs
 go_enter Tryz.func67, Tryz.ntmps67
 go_upto_region 0 with fail
 refine wp_pass0 (C := fun _ _ _ => False) (κ := fun i => [3, 0].getD i 0) [0, 1] (by kernel_rfl) (by kernel_rfl) (fun _ _ d _ _ h => by cases d <;> first | exact h | exact absurd h (hP _ _ _)) ?_
 (refine TD.box (v := ?v5) (by simp only [zK]; rfl) rfl (by rfl) rfl rfl ?hx5 (fun p1 hp1 => ?n5); (case hx5 => simp only [zM]; try rfl); try simp only [zL])
 (refine TD.val0 (v := ?_) (by simp only [zK]; rfl) rfl (by rfl) (fun w1 => ?_) ?_; rotate_left; (next => go_simp; try with_reducible rfl); try simp only [zL])
 refine TD.nil (fun w1 hr => ?_)
 have kp1 := hr.box p1 _ (by first | exact Bx.set_same _ _ _ | (simp only [Bx.set_same]; rfl)); dsimp only [Value.cells] at kp1; obtain ⟨gp1, kp1⟩ := kp1
 have m1 := hr.mod
 clear hr
 by_cases h0 : b < a
 ·have hd1 := decide_eq_true h0
  by_cases h1 : s ≤ n
  ·have hd2 := decide_eq_true h1
   go_upto_region 1 with fail
   have Lkp1 := lt_size kp1
   refine wp_pass0 (C := fun _ _ _ => False) (κ := fun i => [0, 0, 1, 3, 4].getD i 0) [0, 1, 2, 3, 4] (by kernel_rfl) (by kernel_rfl) (fun _ _ d _ _ h => by cases d <;> first | exact h | exact absurd h (hP _ _ _)) ?_
   iterate 3 first | (refine TD.val0 (v := ?_) (by simp only [zK]; rfl) rfl (by rfl) (fun w1 => ?_) ?_; rotate_left; (next => go_simp; try with_reducible rfl); try simp only [zL]) | (refine TD.load (v := ?_) (p := ?_) (Mod.refl _ _) (by simp only [zK]; rfl) rfl (by rfl) rfl ?_ (fun wq hSq => ?_) ?_; rotate_left 2; (next => simp only [zM]; try rfl); (next => have kp1q := hSq.at kp1 (fun h => h); go_simp; try with_reducible rfl); try simp only [zL])
   (refine TD.allocB (by simp only [zK]; rfl) rfl (by rfl) rfl rfl alHdr (fun p3 hp3 => ?n10); try simp only [zL])
   (refine TD.storeB (d := ?d11) (T := ?T11) (y := ?y11) (p := ?p11) (b := ?b11) (v := ?v11) (by simp only [zK]; rfl) rfl (by rfl) ?hd11 ?hop11 ?hev11 ?hx11 ?hb11 ?htag11 (fun w1 hb1 => ?hy11) ?hn11; (case hd11 => rfl); (case hop11 => rfl); (case hev11 => (simp only [zM]; (try rfl))); (case hx11 => simp only [zM]; try rfl); (case hb11 => first | exact Bx.set_same _ _ _ | (simp only [Bx.set_same]; rfl)); (case hy11 => (go_simp; (try first | with_reducible rfl | (rw [setCell_blk hb1]; rfl)))); try simp only [zL])
   refine TD.nil (fun w2 hr => ?_)
   replace kp1 := hr.mod.at kp1 (fun h => h)
   have kp3 := hr.box p3 _ (by first | exact Bx.set_same _ _ _ | (simp only [Bx.set_same]; rfl)); dsimp only [Value.cells] at kp3; obtain ⟨gp3, kp3⟩ := kp3
   have m2 := m1.then0 hr.mod
   clear hr
   go_wp2_with fail
   go_ret
   exact ⟨by first | rfl | (simp [h0, h1]; done) | (simp [h0, h1]; omega), m2⟩
  ·have hd2 := decide_eq_false h1
   go_upto_region 1 with fail
   have Lkp1 := lt_size kp1
   refine wp_pass0 (C := fun _ _ _ => False) (κ := fun i => [0, 0, 1, 3, 4].getD i 0) [0, 1, 2, 3, 4] (by kernel_rfl) (by kernel_rfl) (fun _ _ d _ _ h => by cases d <;> first | exact h | exact absurd h (hP _ _ _)) ?_
   iterate 3 first | (refine TD.val0 (v := ?_) (by simp only [zK]; rfl) rfl (by rfl) (fun w1 => ?_) ?_; rotate_left; (next => go_simp; try with_reducible rfl); try simp only [zL]) | (refine TD.load (v := ?_) (p := ?_) (Mod.refl _ _) (by simp only [zK]; rfl) rfl (by rfl) rfl ?_ (fun wq hSq => ?_) ?_; rotate_left 2; (next => simp only [zM]; try rfl); (next => have kp1q := hSq.at kp1 (fun h => h); go_simp; try with_reducible rfl); try simp only [zL])
   (refine TD.allocB (by simp only [zK]; rfl) rfl (by rfl) rfl rfl alHdr (fun p3 hp3 => ?n15); try simp only [zL])
   (refine TD.storeB (d := ?d16) (T := ?T16) (y := ?y16) (p := ?p16) (b := ?b16) (v := ?v16) (by simp only [zK]; rfl) rfl (by rfl) ?hd16 ?hop16 ?hev16 ?hx16 ?hb16 ?htag16 (fun w1 hb1 => ?hy16) ?hn16; (case hd16 => rfl); (case hop16 => rfl); (case hev16 => (simp only [zM]; (try rfl))); (case hx16 => simp only [zM]; try rfl); (case hb16 => first | exact Bx.set_same _ _ _ | (simp only [Bx.set_same]; rfl)); (case hy16 => (go_simp; (try first | with_reducible rfl | (rw [setCell_blk hb1]; rfl)))); try simp only [zL])
   refine TD.nil (fun w2 hr => ?_)
   replace kp1 := hr.mod.at kp1 (fun h => h)
   have kp3 := hr.box p3 _ (by first | exact Bx.set_same _ _ _ | (simp only [Bx.set_same]; rfl)); dsimp only [Value.cells] at kp3; obtain ⟨gp3, kp3⟩ := kp3
   have m2 := m1.then0 hr.mod
   clear hr
   go_wp2_with fail
   go_ret
   exact ⟨by first | rfl | (simp [h0, h1]; done) | (simp [h0, h1]; omega), m2⟩
 ·have hd1 := decide_eq_false h0
  go_upto_region 1 with fail
  have Lkp1 := lt_size kp1
  refine wp_pass0 (C := fun _ _ _ => False) (κ := fun i => [0, 0, 1, 3, 4].getD i 0) [0, 1, 2, 3, 4] (by kernel_rfl) (by kernel_rfl) (fun _ _ d _ _ h => by cases d <;> first | exact h | exact absurd h (hP _ _ _)) ?_
  iterate 3 first | (refine TD.val0 (v := ?_) (by simp only [zK]; rfl) rfl (by rfl) (fun w1 => ?_) ?_; rotate_left; (next => go_simp; try with_reducible rfl); try simp only [zL]) | (refine TD.load (v := ?_) (p := ?_) (Mod.refl _ _) (by simp only [zK]; rfl) rfl (by rfl) rfl ?_ (fun wq hSq => ?_) ?_; rotate_left 2; (next => simp only [zM]; try rfl); (next => have kp1q := hSq.at kp1 (fun h => h); go_simp; try with_reducible rfl); try simp only [zL])
  (refine TD.allocB (by simp only [zK]; rfl) rfl (by rfl) rfl rfl alHdr (fun p3 hp3 => ?n20); try simp only [zL])
  (refine TD.storeB (d := ?d21) (T := ?T21) (y := ?y21) (p := ?p21) (b := ?b21) (v := ?v21) (by simp only [zK]; rfl) rfl (by rfl) ?hd21 ?hop21 ?hev21 ?hx21 ?hb21 ?htag21 (fun w1 hb1 => ?hy21) ?hn21; (case hd21 => rfl); (case hop21 => rfl); (case hev21 => (simp only [zM]; (try rfl))); (case hx21 => simp only [zM]; try rfl); (case hb21 => first | exact Bx.set_same _ _ _ | (simp only [Bx.set_same]; rfl)); (case hy21 => (go_simp; (try first | with_reducible rfl | (rw [setCell_blk hb1]; rfl)))); try simp only [zL])
  refine TD.nil (fun w2 hr => ?_)
  replace kp1 := hr.mod.at kp1 (fun h => h)
  have kp3 := hr.box p3 _ (by first | exact Bx.set_same _ _ _ | (simp only [Bx.set_same]; rfl)); dsimp only [Value.cells] at kp3; obtain ⟨gp3, kp3⟩ := kp3
  have m2 := m1.then0 hr.mod
  clear hr
  go_wp2_with fail
  go_ret
  exact ⟨by first | rfl | (simp [h0]; done) | (simp [h0]; omega), m2⟩
end Go.Proofs.YtiaehkkkcaeaiaaGreatDoor
namespace Go.Proofs.YtiaehkkkcaeaiaaGreatDoor
open Go.RowKit
open Go.ChangeMaps (setBlock)
attribute [local go_sem ↓] wlKey ldKey stKey ldSg stSg wlTc ldTc stTc eqKey1
attribute [local go_sem] cell_blk frozen_blk kc_ext one_int one_bool one_ptr one_slice one_map kc_one kc_one0 kc_size zKey_size sgc_size sgc_ext sgc_one0 sgc_one' txr_size txr_all txr_one txr_one' txr0 txr38 txr39 txr0' txr38' txr39' zTx_size Value.cells
attribute [local go_sem ↓] wlLo ldLo stLo wlIn ldIn stIn
attribute [local go_sem] txr2 txr5 txr2' txr5' txr_hd inrR_size inrR_all zInR_size inrR0 inrR1 inrR0' inrR1'
theorem alIntR (w : World) : (Instr.alloc 3 true (.tuple #[])).run Tryz.prog w = .ok (.pointer (some ⟨w.heap.size, 0, none⟩)) (w.alloc (.cells #[.int .i64 0] 3)) := by kernel_rfl
set_option maxRecDepth 20000 in
theorem point2_c (q1 A : Nat) (c : UInt8) (w : World) (k1 : w.heap[q1]? = some (.cells #[.int .i64 (A : Int)] 3 (0, 0))) : Calls Tryz.prog 113 #[u8v c, pV q1] w fun e w' => e = .returned (.bool (decide (A ≤ c.toNat))) ∧ Mod (fun _ => False) w w' := by
 obtain ⟨k, hk⟩ : ∃ k, c.toNat = k := ⟨_, rfl⟩
 have hkb : k < 256 := by rw [← hk]; exact c.toNat_lt
 have hw : IntKind.i64.wrap (k : Int) = (k : Int) := by rw [IntKind.wrap_i64]; omega
 show Calls Tryz.prog 113 #[.int .u8 (c.toNat : Int), pV q1] w _
 rw [hk]
 by_cases h : A ≤ k
 ·have hd := decide_eq_true h
  go_enter Tryz.func113, Tryz.ntmps113
  go_wp2_with fail
  go_ret
  exact ⟨by first | rfl | (simp [h]; done) | (simp [h]; omega), Mod.refl _ _⟩
 ·have hd := decide_eq_false h
  go_enter Tryz.func113, Tryz.ntmps113
  go_wp2_with fail
  go_ret
  exact ⟨by first | rfl | (simp [h]; done) | (simp [h]; omega), Mod.refl _ _⟩
theorem point_eq (K A : Nat) (y : InR) : (!pointP K A (inP y)) = (decide (y.p.toNat = 0) || decide (K ≤ y.p.toNat) || y.a.l.any (fun c => decide (A ≤ c.toNat))) := by
 unfold pointP inP
 simp only [Bool.not_and, List.not_all_eq_any_not]
 rw [← decide_not, ← decide_not]
 congr 1
 ·congr 1
  ·simp
  ·simp
 ·congr 1
  funext c
  rw [← decide_not]
  simp
set_option maxRecDepth 20000 in
set_option maxHeartbeats 1600000 in
theorem point1_c (q1 q2 A K : Nat) (y : InR) (w : World) (k1 : w.heap[q1]? = some (.cells #[.int .i64 (A : Int)] 3 (0, 0))) (k2 : w.heap[q2]? = some (.cells #[.int .i64 (K : Int)] 3 (0, 0))) (hl : SlAt uc 1 w y.a.a y.a.l) (hb : y.a.l.length ≤ 1000000) : Calls Tryz.prog 112 #[.agg (inr y), pV q1, pV q2] w fun e w' => e = .returned (.bool (!pointP K A (inP y))) ∧ Mod (fun _ => False) w w' := by
 rw [point_eq]
 obtain ⟨k, hk⟩ : ∃ k, y.p.toNat = k := ⟨_, rfl⟩
 have hkb : k < 256 := by rw [← hk]; exact y.p.toNat_lt
 have hw : IntKind.i64.wrap (k : Int) = (k : Int) := by rw [IntKind.wrap_i64]; omega
 obtain ⟨b, hbb⟩ : ∃ b, y.a.l.any (fun c => decide (A ≤ c.toNat)) = b := ⟨_, rfl⟩
 have HL := Lib.hid (And.intro hl hb)
 have hmf := hmf
 rw [hk, hbb]
 clear hl hb
 go_enter Tryz.func112, Tryz.ntmps112
 go_upto_region 0 with fail
 have Lk1 := lt_size k1
 have Lk2 := lt_size k2
 refine wp_pass0 (C := fun _ _ _ => False) (κ := fun i => [3, 0].getD i 0) [0, 1] (by kernel_rfl) (by kernel_rfl) (fun _ _ d _ _ h => by cases d <;> first | exact h | exact absurd h (hP _ _ _)) ?_
 (refine TD.box (v := ?v1) (by simp only [zK]; rfl) rfl (by rfl) rfl rfl ?hx1 (fun p3 hp3 => ?n1); (case hx1 => simp only [zM]; try rfl); try simp only [zL])
 (refine TD.val0 (v := ?_) (by simp only [zK]; rfl) rfl (by rfl) (fun w1 => ?_) ?_; rotate_left; (next => go_simp; try with_reducible rfl); try simp only [zL])
 refine TD.nil (fun w1 hr => ?_)
 replace k1 := hr.mod.at k1 (fun h => h)
 replace k2 := hr.mod.at k2 (fun h => h)
 have kp3 := hr.box p3 _ (by first | exact Bx.set_same _ _ _ | (simp only [Bx.set_same]; rfl)); dsimp only [Value.cells] at kp3; obtain ⟨gp3, kp3⟩ := kp3
 have m1 := hr.mod
 clear hr
 by_cases h0 : k = 0
 ·have hd := decide_eq_true h0
  have hd2 : decide ((k : Int) = 0) = true := decide_eq_true (by omega)
  go_wp2_with fail
  go_ret
  exact ⟨by first | rfl | (simp [h0]; done), m1⟩
 ·have hd := decide_eq_false h0
  have hd2 : decide ((k : Int) = 0) = false := decide_eq_false (by omega)
  by_cases h1 : K ≤ k
  ·have hd3 := decide_eq_true h1
   go_wp2_with fail
   go_ret
   exact ⟨by first | rfl | (simp [h1]; done), m1⟩
  ·have hd3 := decide_eq_false h1
   have HC := Lib.hid (contB_c q1 y.a.a y.a.l y.a.c w1 (HL.out.1.mod0 m1) HL.out.2 (fun c => decide (A ≤ c.toNat)) (fun c _ w2 m => point2_c q1 A c w2 (m.at0 k1)))
   have hC := HC.out
   rw [hbb] at hC
   have HC2 := Lib.hid hC
   clear hC HC hbb
   go_wp2_with fail
   go_at_call 114
   refine HC2.out.mono ?_
   rintro e w2 ⟨rfl, m2⟩
   have m3 := m1.trans m2
   go_wp2_with fail
   go_ret
   exact ⟨by first | rfl | (simp [h0, h1]; done), m3⟩
theorem pointed_eq (x : RdR) : pointedP (txP x) = !(x.ins.l.any (fun y => !pointP x.ks.l.length (totP (txP x)) (inP y))) := by
 unfold pointedP
 show (x.ins.l.map inP).all _ = _
 rw [List.all_map, List.not_any_eq_all_not]
 congr 1
 funext y
 simp only [Bool.not_not]
 rfl
set_option maxRecDepth 20000 in
set_option maxHeartbeats 1600000 in
theorem pointed_c (x : RdR) (w : World) (h : TxRd w x) : Calls Tryz.prog 70 #[.agg (txr x)] w fun e w' => e = .returned (.bool (pointedP (txP x))) ∧ Mod (fun _ => False) w w' := by
 rw [pointed_eq]
 have HX := Lib.hid h
 clear h
 obtain ⟨b, hb⟩ : ∃ b, x.ins.l.any (fun y => !pointP x.ks.l.length (totP (txP x)) (inP y)) = b := ⟨_, rfl⟩
 obtain ⟨T, hT⟩ : ∃ T, totP (txP x) = T := ⟨_, rfl⟩
 obtain ⟨n, hn⟩ : ∃ n, x.ks.l.length = n := ⟨_, rfl⟩
 have HB := Lib.hid hb
 have HT := Lib.hid hT
 rw [hb]
 clear hb hT
 have hmf := hmf
 go_enter Tryz.func70, Tryz.ntmps70
 go_upto_region 0 with fail
 refine wp_pass0 (C := fun _ _ _ => False) (κ := fun i => [3, 0].getD i 0) [0, 1] (by kernel_rfl) (by kernel_rfl) (fun _ _ d _ _ h => by cases d <;> first | exact h | exact absurd h (hP _ _ _)) ?_
 (refine TD.box (v := ?v3) (by simp only [zK]; rfl) rfl (by rfl) rfl rfl ?hx3 (fun p1 hp1 => ?n3); (case hx3 => simp only [zM]; try rfl); try simp only [zL])
 (refine TD.val0 (v := ?_) (by simp only [zK]; rfl) rfl (by rfl) (fun w1 => ?_) ?_; rotate_left; (next => go_simp; try with_reducible rfl); try simp only [zL])
 refine TD.nil (fun w1 hr => ?_)
 have kp1 := hr.box p1 _ (by first | exact Bx.set_same _ _ _ | (simp only [Bx.set_same]; rfl)); dsimp only [Value.cells] at kp1; obtain ⟨gp1, kp1⟩ := kp1
 have m1 := hr.mod
 clear hr
 have HM1 := Lib.hid m1
 clear m1
 go_upto_region 1 with fail
 have Lkp1 := lt_size kp1
 refine wp_pass (C := fun _ _ v => v = .int .i64 (T : Int)) (κ := fun i => [0, 0, 1, 0, 1, 2, 3, 3, 4, 4].getD i 0) [0, 1, 2, 3, 4, 5, 6, 7, 8, 9] (by kernel_rfl) (by kernel_rfl) (fun _ _ d _ _ h => by cases d <;> first | exact h | exact absurd h (hP _ _ _)) ?_
 iterate 5 first | (refine TD.val0 (v := ?_) (by simp only [zK]; rfl) rfl (by rfl) (fun w1 => ?_) ?_; rotate_left; (next => go_simp; try with_reducible rfl); try simp only [zL]) | (refine TD.load (v := ?_) (p := ?_) (Mod.refl _ _) (by simp only [zK]; rfl) rfl (by rfl) rfl ?_ (fun wq hSq => ?_) ?_; rotate_left 2; (next => simp only [zM]; try rfl); (next => have kp1q := hSq.at kp1 (fun h => h); go_simp; try with_reducible rfl); try simp only [zL])
 (refine TD.call (f := ?f10) (args := ?r10) (Mod.refl _ _) (by simp only [zK]; rfl) rfl (by rfl) (fun w1 => ?y10) ?hsp10 ?n10; (case y10 => (go_simp; (first | with_reducible rfl | (constructor <;> with_reducible rfl)))); (case hsp10 => (intro wq hSq; have kp1q := hSq.at kp1 (fun h => h); exact (total_c x wq ((HX.out.mod0 HM1.out).mod0 hSq)).mono (fun e w' h => ⟨_, h.1, by rw [HT.out], h.2⟩))); rintro _ hC; subst hC; try simp only [zL])
 (refine TD.allocB (by simp only [zK]; rfl) rfl (by rfl) rfl rfl alIntR (fun p3 hp3 => ?n11); try simp only [zL])
 (refine TD.allocB (by simp only [zK]; rfl) rfl (by rfl) rfl rfl alIntR (fun p4 hp4 => ?n12); try simp only [zL])
 obtain ⟨ne_p4_p3, hp4⟩ := Bx.set_none hp4
 (refine TD.storeB (d := ?d13) (T := ?T13) (y := ?y13) (p := ?p13) (b := ?b13) (v := ?v13) (by simp only [zK]; rfl) rfl (by rfl) ?hd13 ?hop13 ?hev13 ?hx13 ?hb13 ?htag13 (fun w1 hb1 => ?hy13) ?hn13; (case hd13 => rfl); (case hop13 => rfl); (case hev13 => (simp only [zM]; (try rfl))); (case hx13 => simp only [zM]; try rfl); (case hb13 => first | exact Bx.set_same _ _ _ | (simp only [Bx.set_ne _ (Ne.symm ne_p4_p3), Bx.set_ne _ ne_p4_p3, Bx.set_same]; rfl)); (case hy13 => (go_simp; (try first | with_reducible rfl | (rw [setCell_blk hb1]; rfl)))); try simp only [zL])
 (refine TD.storeB (d := ?d14) (T := ?T14) (y := ?y14) (p := ?p14) (b := ?b14) (v := ?v14) (by simp only [zK]; rfl) rfl (by rfl) ?hd14 ?hop14 ?hev14 ?hx14 ?hb14 ?htag14 (fun w1 hb1 => ?hy14) ?hn14; (case hd14 => rfl); (case hop14 => rfl); (case hev14 => (simp only [zM]; (try rfl))); (case hx14 => simp only [zM]; try rfl); (case hb14 => first | exact Bx.set_same _ _ _ | (simp only [Bx.set_ne _ (Ne.symm ne_p4_p3), Bx.set_ne _ ne_p4_p3, Bx.set_same]; rfl)); (case hy14 => (go_simp; (try first | with_reducible rfl | (rw [setCell_blk hb1]; rfl)))); try simp only [zL])
 refine TD.nil (fun w2 hr => ?_)
 replace kp1 := hr.mod.at kp1 (fun h => h)
 have kp3 := hr.box p3 _ (by first | exact Bx.set_same _ _ _ | (simp only [Bx.set_ne _ (Ne.symm ne_p4_p3), Bx.set_ne _ ne_p4_p3, Bx.set_same]; rfl)); dsimp only [Value.cells] at kp3; obtain ⟨gp3, kp3⟩ := kp3
 have kp4 := hr.box p4 _ (by first | exact Bx.set_same _ _ _ | (simp only [Bx.set_ne _ (Ne.symm ne_p4_p3), Bx.set_ne _ ne_p4_p3, Bx.set_same]; rfl)); dsimp only [Value.cells] at kp4; obtain ⟨gp4, kp4⟩ := kp4
 have HM2 := Lib.hid (HM1.out.then0 hr.mod)
 clear hr
 have HC := Lib.hid (contI_c p4 p3 x.ins.a x.ins.l x.ins.c w2 (HX.out.mod0 HM2.out).2.2.1.1 HX.out.2.2.1.2.1 (fun y => !pointP x.ks.l.length (totP (txP x)) (inP y)) (fun y hy w3 m => point1_c p4 p3 (totP (txP x)) x.ks.l.length y w3 (by rw [HT.out]; exact m.at0 kp4) (by rw [hn]; exact m.at0 kp3) (((HX.out.mod0 HM2.out).mod0 m).2.2.1.2.2 y hy).1.1 (HX.out.2.2.1.2.2 y hy).1.2))
 have hC := HC.out
 rw [HB.out] at hC
 have HC2 := Lib.hid hC
 clear hC HC
 go_wp2_with fail
 go_at_call 111
 refine HC2.out.mono ?_
 rintro e w3 ⟨rfl, m3⟩
 have m4 := HM2.out.trans m3
 go_wp2_with fail
 go_ret
 exact ⟨by first | rfl | (simp; done) | (cases b <;> rfl), m4⟩
end Go.Proofs.YtiaehkkkcaeaiaaGreatDoor
namespace Go.Proofs.YtiaehkkkcaeaiaaGreatDoor
section
variable {P : Program} {ops : Array Oper} {Q : Exit → Act → World → Prop} {T0 : Nat → Prop} {w0 : World} {κ : Nat → Nat} {υ : Nat → List Tmp}
theorem TG.soundX (hsel : ∀ (j : Nat) (p : Oper) cs b, ops[j]? = some p → p.op ≠ .select cs b)
  (hback : ∀ i o, ops[i]? = some o → ∀ e ∈ o.after, Region.binds .any e = true → e.on < i) {rest : List Nat} {E : Act → World → Prop} (hE : ∀ listed a w, Listing ops listed rest → E a w → wpAny P .any ops Q rest.length listed a w) :
  ∀ (fuel : Nat) (l : List Nat) (listed : Array Bool) (a : Act) (B : Bx) (K : Land) (w : World), l.length = fuel → (l ++ rest).Nodup → (∀ i ∈ l ++ rest, i < ops.size) → gPairsOk ops κ υ l = true →
   (∀ x ∈ l, ∀ y ∈ rest, x ≠ y ∧ (behindB ops x).testBit y = true) → Listing ops listed (l ++ rest) → Closed K →
   RG T0 w0 B K w → TG P ops (fun _ a w => E a w) T0 w0 κ υ l a B K → wpAny P .any ops Q (rest.length + fuel) listed a w := by
 intro fuel
 induction fuel with
 | zero =>
  intro l listed a B K w hl hn hlt hp hb hL hK hR h
  obtain rfl : l = [] := List.length_eq_zero_iff.1 hl
  have hte : E a w := by
   cases h with | nil h => exact h w hR
  exact hE listed a w (by simpa using hL) hte
 | succ fuel ih =>
  intro l listed a B K w hl hn hlt hp hb hL hK hR h
  refine ⟨fun hnil => ?_, fun i hi => ?_⟩
  ·exfalso
   match l, hl with
   | i :: l', _ => exact exists_ready hback hL hlt i i (by simp) (Nat.le_refl _) hnil
  ·obtain ⟨hun, o, ho, hall⟩ := mem_ready.1 hi
   have hil : i ∈ l := by
    rcases List.mem_append.1 ((hL.mem i).2 hun) with hin | hin
    ·exact hin
    ·exfalso
     clear h
     match l, hl with
     | x :: l', _ =>
      have hxy := hb x (by simp) i hin
      obtain ⟨_, hpth⟩ := (behindB_path hxy.2).resolve_left (fun e => hxy.1 e.symm)
      have hl1 := path_listed hL.closed _ x i o ho hall hpth
      have hl2 := getD_false_of_true ((hL.mem x).1 (by simp))
      rw [hl1] at hl2
      cases hl2
   obtain ⟨pre, post, rfl⟩ := List.append_of_mem hil
   obtain ⟨h1, h2⟩ := gPairsOk_split hp
   have hf := TG.front hsel ho pre a B K hK ⟨w, hR⟩ (fun x hx => by
    have := h1 x hx
    unfold gPairOk at this
    have hxo : ops[x]? = some (ops[x]'(hlt x (by simp [hx]))) := Array.getElem?_eq_getElem _
    rw [hxo, ho] at this
    simp only [Bool.or_eq_true, Bool.and_eq_true] at this
    rcases this with hpth | hok
    ·obtain ⟨_, hpth⟩ := (behindB_path hpth.2).resolve_left (fun e => by have := hpth.1; simp [e] at this)
     have hl1 := path_listed hL.closed _ x i o ho hall hpth
     have hl2 := getD_false_of_true ((hL.mem x).1 (by simp [hx]))
     rw [hl1] at hl2
     cases hl2
    ·exact ⟨_, hxo, hok.1, hok.2⟩) h
   have hl' : (pre ++ post).length = fuel := by simp at hl ⊢; omega
   have hsub : ((pre ++ post) ++ rest).Sublist ((pre ++ i :: post) ++ rest) := List.Sublist.append_right (List.Sublist.append_left (List.sublist_cons_self _ _) _) _
   have hn' : ((pre ++ post) ++ rest).Nodup := hn.sublist hsub
   have hlt' : ∀ j ∈ (pre ++ post) ++ rest, j < ops.size := fun j hj => hlt j (hsub.subset hj)
   have hb' : ∀ x ∈ pre ++ post, ∀ y ∈ rest, x ≠ y ∧ (behindB ops x).testBit y = true := fun x hx => hb x ((List.Sublist.append_left (List.sublist_cons_self i post) pre).subset hx)
   have hL' : Listing ops (listed.setIfInBounds i true) ((pre ++ post) ++ rest) := by
    have := Listing.next (pre := pre) (post := post ++ rest) (i := i) (by simpa using hL) (by simpa using hn) ho hall
    simpa using this
   rcases hf.kinds with ko | ko | ko | ko
   ·obtain ⟨v, hy, ht⟩ := hf.inv_val ko ho
    obtain ⟨T, hRT⟩ := hR
    exact YieldsIf.wpOp ho hy hRT.mod (ih _ _ _ _ _ _ hl' hn' hlt' h2 hb' hL' hK ⟨T, hRT⟩ ht)
   ·obtain ⟨hw, d, T, z, V, hd, hr, ht⟩ := hf.inv_alloc ko ho
    obtain ⟨U, hRT⟩ := hR
    have hR' : RG T0 w0 (B.set w.heap.size ⟨z, T, d⟩) K (w.alloc (.cells z T)) := ⟨U, hRT.alloc hK z T d⟩
    unfold wpOp
    simp only [ho, hw, if_true]
    refine .inl ?_
    unfold Oper.wp
    rw [hr w]
    exact ih _ _ _ _ _ _ hl' hn' hlt' h2 hb' hL' hK hR' (ht _ hRT.none ⟨_, hR'⟩)
   ·obtain ⟨hw, hd, d, T, y, p, b, hop, hev, hbb, htag, hr, ht⟩ := hf.inv_store ko ho
    obtain ⟨U, hRT⟩ := hR
    unfold wpOp
    simp only [ho, hw, if_true]
    refine .inl ?_
    unfold Oper.wp
    rw [hr w (hRT.box p b hbb).2.2]
    simp only [Oper.upon, hd]
    exact ih _ _ _ _ _ _ hl' hn' hlt' h2 hb' hL' hK ⟨U, hRT.store hK hbb _⟩ ht
   ·obtain ⟨hw, K', hE, ht⟩ := hf.inv_eff ko ho
    obtain ⟨U, hRT⟩ := hR
    exact (hE.step hRT).wp ho hw fun v w' hv => ih _ _ _ _ _ _ hl' hn' hlt' h2 hb' hL' (hE.cl v) hv (ht v ⟨w', hv⟩)
def headB (ops : Array Oper) (rest : List Nat) (i : Nat) : Bool := rest.all fun j => j == i || !(behindB ops j).testBit i
def AllE (P : Program) (ops : Array Oper) (Q : Exit → Act → World → Prop) : Nat → List Nat → Act → World → Prop
 | 0, _, a, w => Q .normal a w
 | n + 1, rest, a, w => ∀ i ∈ rest, headB ops rest i = true → wpOp P ops Q i (AllE P ops Q n (rest.erase i)) a w
theorem allE_nil {rest : List Nat} {a : Act} {w : World} (h : Q .normal a w) : AllE P ops Q 0 rest a w := h
theorem no_head {b : Bool} {p : Prop} (hf : b = false) (hb : b = true) : p := by
 rw [hf] at hb
 cases hb
theorem allE_any (hsel : ∀ (j : Nat) (p : Oper) cs b, ops[j]? = some p → p.op ≠ .select cs b)
  (hback : ∀ i o, ops[i]? = some o → ∀ e ∈ o.after, Region.binds .any e = true → e.on < i) : ∀ (n : Nat) (rest : List Nat), rest.length = n → rest.Nodup → (∀ i ∈ rest, i < ops.size) →
  ∀ (listed : Array Bool) (a : Act) (w : World), Listing ops listed rest → AllE P ops Q n rest a w → wpAny P .any ops Q n listed a w := by
 intro n
 induction n with
 | zero =>
  intro rest hl hn hlt listed a w hL h
  obtain rfl := List.length_eq_zero_iff.1 hl
  exact TE.sound (κ := fun _ => 0) hsel hback 0 [] listed a w rfl List.nodup_nil (by simp) rfl hL (.nil h)
 | succ n ih =>
  intro rest hl hn hlt listed a w hL h
  have hne : rest ≠ [] := by intro e; rw [e] at hl; cases hl
  refine ⟨fun hnil => ?_, fun i hi => ?_⟩
  ·exfalso
   obtain ⟨x, hx⟩ := List.exists_mem_of_ne_nil _ hne
   exact exists_ready hback hL hlt x x hx (Nat.le_refl _) hnil
  ·obtain ⟨hun, o, ho, hall⟩ := mem_ready.1 hi
   have hin := (hL.mem i).2 hun
   have hhead : headB ops rest i = true := by
    unfold headB
    rw [List.all_eq_true]
    intro j hj
    by_cases e : j = i
    ·simp [e]
    ·cases hb : (behindB ops j).testBit i with
     | false => simp
     | true =>
      exfalso
      obtain ⟨_, hpth⟩ := (behindB_path hb).resolve_left (fun e' => e e'.symm)
      have hl1 := path_listed hL.closed _ j i o ho hall hpth
      have hl2 := getD_false_of_true ((hL.mem j).1 hj)
      rw [hl1] at hl2
      cases hl2
   obtain ⟨pre, post, hr⟩ := List.append_of_mem hin
   have hN := Listing.next (pre := pre) (post := post) (i := i) (by rw [← hr]; exact hL) (by rw [← hr]; exact hn) ho hall
   have hq : (rest.erase i).Perm (pre ++ post) := List.Perm.cons_inv ((List.perm_cons_erase hin).symm.trans (by rw [hr]; exact List.perm_middle))
   refine wpOp_mono (fun a' w' hk => ?_) (h i hin hhead)
   refine ih (rest.erase i) (by rw [List.length_erase_of_mem hin]; omega) (hn.erase i) (fun x hx => hlt x (List.mem_of_mem_erase hx)) _ a' w' ⟨hN.size, fun x => (hq.mem_iff).trans (hN.mem x), hN.closed⟩ hk
def xRegOk (ops : Array Oper) (κ : Nat → Nat) (υ : Nat → List Tmp) (l rest : List Nat) : Bool :=
 Region.noSelect ops && ((List.range ops.size).all fun i => match ops[i]? with | none => false | some o => o.after.all fun e => !Region.binds .any e || decide (e.on < i)) &&
 (decide (rest.length + l.length = ops.size) && ((l ++ rest).all (fun i => decide (i < ops.size)) && ((List.range ops.size).all fun i => (l ++ rest).contains i))) &&
 (decide (l ++ rest).Nodup && gPairsOk ops κ υ l &&
  l.all (fun x => rest.all fun y => !(x == y) && (behindB ops x).testBit y))
theorem x_any {a : Act} {w1 : World} {K : Land} (l rest : List Nat) (hok : xRegOk ops κ υ l rest = true) (hK : Closed K) (hR : RG T0 w0 Bx.nil K w1)
  (h : TG P ops (fun _ a w => AllE P ops Q rest.length rest a w) T0 w0 κ υ l a Bx.nil K) : wpAny P .any ops Q ops.size (Array.replicate ops.size false) a w1 := by
 simp only [xRegOk, Bool.and_eq_true, List.all_eq_true, decide_eq_true_eq] at hok
 obtain ⟨⟨⟨h1, h2⟩, h3, h4, h5⟩, ⟨hnd, h6⟩, h8⟩ := hok
 have hback : ∀ i o, ops[i]? = some o → ∀ e ∈ o.after, Region.binds .any e = true → e.on < i := fun i o ho e he hb => by
  have := h2 i (List.mem_range.2 (Array.getElem?_eq_some_iff.1 ho).1)
  rw [ho] at this
  have := Array.all_eq_true_iff_forall_mem.1 this e he
  simpa [hb] using this
 rw [← h3]
 have hnr : rest.Nodup := (List.nodup_append.1 hnd).2.1
 refine TG.soundX (Region.noSelect_spec h1) hback (fun listed a w hL hE => allE_any (Region.noSelect_spec h1) hback rest.length rest rfl hnr (fun i hi => h4 i (List.mem_append_right _ hi)) listed a w hL hE) _ l _ a _ _ _ rfl hnd h4 h6 (fun x hx y hy => ?_) ?_ hK hR h
 ·have := h8 x hx y hy
  exact ⟨by simpa using this.1, this.2⟩
 ·rw [h3]
  refine ⟨by simp, fun i => ?_, fun i o hi => ?_⟩
  ·constructor
   ·intro hi
    have := h4 i hi
    simp [this]
   ·intro hi
    have : i < ops.size := by
     rcases Nat.lt_or_ge i ops.size with h' | h'
     ·exact h'
     ·simp [Nat.not_lt.2 h'] at hi
    simpa using h5 i (List.mem_range.2 this)
  ·exfalso
   have : (Array.replicate ops.size false).getD i false = false := by
    by_cases h' : i < ops.size
    ·simp [h']
    ·simp [h']
   rw [this] at hi
   cases hi
theorem wp_xpass {id : Nat} {a : Act} {w : World} {K : Land} (l rest : List Nat) (hm : P.follows .mixedOrders = true) (hok : xRegOk ops κ υ l rest = true) (hK : Closed K) (hk : K T0 w) (hlt : ∀ i, T0 i → i < w.heap.size)
  (h : TG P ops (fun _ a w => AllE P ops Q rest.length rest a w) T0 w κ υ l a Bx.nil K) : (Code.region id ops true).wp P Q a w :=
 wp_region_any hm (x_any l rest hok hK ⟨T0, hK T0 w w.drew hk (Mod.refl _ w).drew, hlt, fun _ _ h => h, (Mod.refl _ w).drew, fun _ _ hh => by cases hh⟩ h)
end
end Go.Proofs.YtiaehkkkcaeaiaaGreatDoor
namespace Go.Proofs.YtiaehkkkcaeaiaaGreatDoor
open Go.RowKit
open Go.ChangeMaps (setBlock)
attribute [local go_sem ↓] wlKey ldKey stKey ldSg stSg wlTc ldTc stTc eqKey1
attribute [local go_sem] cell_blk frozen_blk kc_ext one_int one_bool one_ptr one_slice one_map kc_one kc_one0 kc_size zKey_size sgc_size sgc_ext sgc_one0 sgc_one' txr_size txr_all txr_one txr_one' txr0 txr38 txr39 txr0' txr38' txr39' zTx_size Value.cells
attribute [local go_sem ↓] wlLo ldLo stLo wlIn ldIn stIn
attribute [local go_sem] txr2 txr5 txr2' txr5' txr_hd
theorem keyTR : KeyT Tryz.prog 82 kv := keyIs.keyT
def nv (n : Nat) : Value := .int .i64 (n : Int)
theorem fresh1 (w : World) (a : Obj) : (w.alloc a).heap[w.heap.size]? = some a := by
 unfold World.alloc
 rw [Array.getElem?_push, if_pos rfl]
theorem nv_zero (w : World) : (zeroValue 3).run Tryz.prog w = .ok (nv 0) w := by kernel_rfl
def cntM (l : List Key) : List (Key × Nat) := l.foldl (fun m k => put k ((lkp k m).getD 0 + 1) m) []
theorem cntM_snoc (l : List Key) (k : Key) : cntM (l ++ [k]) = put k ((lkp k (cntM l)).getD 0 + 1) (cntM l) := by simp [cntM]
theorem put_length {ν : Type} (k : Key) (v : ν) (m : List (Key × ν)) : (put k v m).length = if (lkp k m).isSome then m.length else m.length + 1 := by
 induction m with
 | nil => rfl
 | cons p r ih =>
  unfold put lkp
  by_cases h : p.1 = k
  ·simp [h]
  ·simp only [if_neg h, List.length_cons, ih]
   split <;> simp
theorem snocInd {α : Type} {P : List α → Prop} (h0 : P []) (h1 : ∀ l x, P l → P (l ++ [x])) (l : List α) : P l := by
 have : ∀ l : List α, P l.reverse := fun l => by
  induction l with
  | nil => exact h0
  | cons x l ih => rw [List.reverse_cons]; exact h1 _ _ ih
 have h := this l.reverse
 rwa [List.reverse_reverse] at h
theorem cntM_lkp (l : List Key) (k : Key) : lkp k (cntM l) = if k ∈ l then some (l.count k) else none := by
 induction l using snocInd with
 | h0 => rfl
 | h1 l x ih =>
  rw [cntM_snoc, lkp_put]
  by_cases h : k = x
  ·subst h
   rw [if_pos rfl, ih]
   by_cases hm : k ∈ l
   ·simp [hm]
   ·simp [hm, List.count_eq_zero.2 hm]
  ·rw [if_neg h, ih]
   have hx : (x == k) = false := by simp; exact fun e => h e.symm
   simp [h, List.count_singleton, hx]
theorem cntM_len (l : List Key) : (cntM l).length ≤ l.length ∧ ((cntM l).length = l.length ↔ l.Nodup) := by
 induction l using snocInd with
 | h0 => simp [cntM]
 | h1 l x ih =>
  rw [cntM_snoc, put_length, cntM_lkp]
  have hn : (l ++ [x]).Nodup ↔ l.Nodup ∧ x ∉ l := by
   rw [List.nodup_append]
   simp
   intro _
   constructor
   ·exact fun h hx => h x hx rfl
   ·exact fun h a ha e => h (e ▸ ha)
  rw [hn, List.length_append, List.length_singleton]
  by_cases hm : x ∈ l
  ·simp [hm]
   omega
  ·simp [hm]
   exact ⟨ih.1, ih.2⟩
set_option maxRecDepth 20000 in
set_option maxHeartbeats 3200000 in
theorem once_c (x : RdR) (w : World) (h : TxRd w x) : Calls Tryz.prog 71 #[.agg (txr x)] w fun e w' => e = .returned (.bool (onceP (txP x))) ∧ Mod (fun _ => False) w w' := by
 have HX := Lib.hid h
 clear h
 have hP : onceP (txP x) = decide ((cntM x.ks.l).length = x.ks.l.length) := decide_eq_decide.2 (cntM_len x.ks.l).2.symm
 rw [hP]
 obtain ⟨n, hn⟩ : ∃ n, x.ks.l.length = n := ⟨_, rfl⟩
 have hbn : n ≤ 1000000 := by rw [← hn]; exact HX.out.2.1.2
 have HN := Lib.hid hn
 obtain ⟨t, ht⟩ : ∃ t, (cntM x.ks.l).length = t := ⟨_, rfl⟩
 have HTT := Lib.hid ht
 rw [hn, ht]
 clear ht hP
 have hmm := @run_makeMap Tryz.prog
 go_enter Tryz.func71, Tryz.ntmps71
 go_upto_region 0 with fail
 refine wp_pass0 (C := fun _ _ _ => False) (κ := fun i => [3, 0].getD i 0) [0, 1] (by kernel_rfl) (by kernel_rfl) (fun _ _ d _ _ h => by cases d <;> first | exact h | exact absurd h (hP _ _ _)) ?_
 (refine TD.box (v := ?v1) (by simp only [zK]; rfl) rfl (by rfl) rfl rfl ?hx1 (fun p1 hp1 => ?n1); (case hx1 => simp only [zM]; try rfl); try simp only [zL])
 (refine TD.val0 (v := ?_) (by simp only [zK]; rfl) rfl (by rfl) (fun w1 => ?_) ?_; rotate_left; (next => go_simp; try with_reducible rfl); try simp only [zL])
 refine TD.nil (fun w1 hr => ?_)
 have kp1 := hr.box p1 _ (by first | exact Bx.set_same _ _ _ | (simp only [Bx.set_same]; rfl)); dsimp only [Value.cells] at kp1; obtain ⟨gp1, kp1⟩ := kp1
 have m1 := hr.mod
 clear hr
 go_upto_region 2 with fail
 have km : (w1.alloc (.map #[] 0)).heap[w1.heap.size]? = some (.map #[] 0) := fresh1 _ _
 have m2 : Mod (fun _ => False) w1 (w1.alloc (.map #[] 0)) := (Mod.refl _ _).alloc _
 have hp1q : p1 < w1.heap.size := lt_size kp1
 have kp1' := m2.at0 kp1
 clear kp1
 have kp1 := kp1'
 clear kp1'
 generalize w1.alloc (.map #[] 0) = w2 at *
 have hq : w.heap.size ≤ w1.heap.size := m1.size
 generalize w1.heap.size = q at *
 have HM2 := Lib.hid (m1.then0 m2)
 clear m1 m2 hmm
 go_wp2_with fail
 go_loopw [11] (fun s11 ws => ∃ i : Nat, i ≤ n ∧ s11 = .int .i64 (i : Int) ∧ (∃ es c, ws.heap[q]? = some (.map es c) ∧ Hid (MapIs kv nv es c (cntM (x.ks.l.take i)))) ∧ Mod (fun j => j = q) w2 ws) (fun s11 _ => n - (intOf s11).toNat)
 case atStart => exact ⟨0, by omega, rfl, ⟨_, _, km, Lib.hid (MapIs.empty kv nv)⟩, Mod.refl _ _⟩
 case round =>
  clear km
  obtain ⟨i, hi, rfl, ⟨es1, cl1, km, HM⟩, hm⟩ := hrel
  have kp1 := hm.at kp1 (by omega)
  have HM3 : Hid (Mod (fun j => j = q) w wr) := Lib.hid ((HM2.out.mono (fun _ _ h => h.elim)).trans hm)
  by_cases hlt : i < n
  ·have hd := decide_eq_true hlt
   obtain ⟨k, hk⟩ : ∃ k, x.ks.l[i]? = some k := ⟨_, List.getElem?_eq_getElem (by have := HN.out; omega)⟩
   obtain ⟨g, o, C, U, fr, ha, kl0, he, hle⟩ := HX.out.2.1.1.block hk
   have hg := lt_size kl0
   have kl := HM3.out.at kl0 (by omega)
   have HQB := Lib.hid (lt_size km)
   clear kl0 hg
   go_upto_region 4 with fail
   have Lkl := lt_size kl
   have Lkm := lt_size km
   have Lkp1 := lt_size kp1
   refine wp_pass0 (C := fun _ _ _ => False) (κ := fun i => [0, 1, 3, 4].getD i 0) [0, 1, 2, 3] (by kernel_rfl) (by kernel_rfl) (fun _ _ d _ _ h => by cases d <;> first | exact h | exact absurd h (hP _ _ _)) ?_
   (refine TD.val0 (v := ?_) (by simp only [zK]; rfl) rfl (by rfl) (fun w1 => ?_) ?_; rotate_left; (next => go_simp; try with_reducible rfl); try simp only [zL])
   (refine TD.load (v := ?_) (p := ?_) (Mod.refl _ _) (by simp only [zK]; rfl) rfl (by rfl) rfl ?_ (fun wq hSq => ?_) ?_; rotate_left 2; (next => simp only [zM]; try rfl); (next => have klq := hSq.at kl (fun h => h); have kmq := hSq.at km (fun h => h); have kp1q := hSq.at kp1 (fun h => h); go_simp; try with_reducible rfl); try simp only [zL])
   (refine TD.allocB (by simp only [zK]; rfl) rfl (by rfl) rfl rfl alKey (fun p5 hp5 => ?n5); try simp only [zL])
   (refine TD.storeB (d := ?d6) (T := ?T6) (y := ?y6) (p := ?p6) (b := ?b6) (v := ?v6) (by simp only [zK]; rfl) rfl (by rfl) ?hd6 ?hop6 ?hev6 ?hx6 ?hb6 ?htag6 (fun w1 hb1 => ?hy6) ?hn6; (case hd6 => rfl); (case hop6 => rfl); (case hev6 => (simp only [zM]; (try rfl))); (case hx6 => simp only [zM]; try rfl); (case hb6 => first | exact Bx.set_same _ _ _ | (simp only [Bx.set_same]; rfl)); (case hy6 => (go_simp; (try first | with_reducible rfl | (rw [setCell_blk hb1]; rfl)))); try simp only [zL])
   refine TD.nil (fun w3 hr => ?_)
   replace kl := hr.mod.at kl (fun h => h)
   replace km := hr.mod.at km (fun h => h)
   replace kp1 := hr.mod.at kp1 (fun h => h)
   have kp5 := hr.box p5 _ (by first | exact Bx.set_same _ _ _ | (simp only [Bx.set_same]; rfl)); dsimp only [Value.cells] at kp5; obtain ⟨gp5, kp5⟩ := kp5
   have HM4 : Hid (Mod (fun j => j = q) w2 w3) := Lib.hid (hm.then0 hr.mod)
   have hp5 : p5 ≠ q := by have := HQB.out; omega
   clear hr he hle kl hm
   obtain ⟨c, hc⟩ : ∃ c, (lkp k (cntM (x.ks.l.take i))).getD 0 = c := ⟨_, rfl⟩
   have hcb : c ≤ 1000000 := by
    rw [← hc, cntM_lkp]
    split
    ·have h1 := List.count_le_length (a := k) (l := x.ks.l.take i)
     have h2 := List.length_take_le i x.ks.l
     simp only [zE]
     omega
    ·simp
   have hwr : IntKind.i64.wrap ((c : Int) + 1) = ((c + 1 : Nat) : Int) := by rw [IntKind.wrap_i64]; omega
   have HT1 : Hid (cntM (x.ks.l.take (i + 1)) = put k (c + 1) (cntM (x.ks.l.take i))) := Lib.hid (by rw [List.take_add_one, hk, ← hc]; exact cntM_snoc _ _)
   have hlk : ∀ wq es cl, wq.heap[q]? = some (.map es cl) → MapIs kv nv es cl (cntM (x.ks.l.take i)) ∨ MapIs kv nv es cl (put k c (cntM (x.ks.l.take i))) → (Instr.lookup 148 (.map (some q)) (.agg (kc k)) false).run Tryz.prog wq = .ok (.int .i64 (c : Int)) wq := fun wq es cl hq hM => by
    rcases hM with hM | hM
    ·have := hM.lookupD keyTR Tryz.underlying148 (z := 0) nv_zero wq hq k
     rw [hc] at this
     exact this
    ·have := hM.lookupD keyTR Tryz.underlying148 (z := 0) nv_zero wq hq k
     rw [lkp_put_same, zE] at this
     exact this
   have HLK := Lib.hid hlk
   have hen := fun (wq : World) (hq : wq.heap[q]? = some (.map es1 cl1)) => HM.out.entry keyTR Tryz.underlying148 (z := 0) nv_zero wq hq k
   simp only [hc] at hen
   have HEN := Lib.hid hen
   clear hlk hen hc hk ha
   go_upto_region 5 with fail
   have Lkp5 := lt_size kp5
   have Lkm := lt_size km
   have Lkp1 := lt_size kp1
   refine wp_xpass (T0 := fun _ => False) (K := fun _ _ => True) (κ := fun i => [0, 0, 6, 0, 6, 0, 6].getD i 0) (υ := fun _ => []) [0, 1] [2, 3, 4, 5, 6] (by kernel_rfl) (by kernel_rfl) (Good.true).cl (trivial) (fun _ h => h.elim) ?_
   have gK := Good.true
   (refine TG.v0 (v := ?_) (by simp only [zK]; rfl) rfl (by rfl) (fun w1 => ?_) ?_; rotate_left; (next => go_simp; try with_reducible rfl); try simp only [zL])
   (refine TG.load (v := ?v8) (p := ?p8) (by simp only [zK]; rfl) rfl (by rfl) rfl ?hx8 (fun wq hSq => ?y8) ?n8; (case hx8 => simp only [zM]; try rfl); (case y8 => (have kp5q := hSq.at kp5 (fun h => h); have kmq := hSq.at km (fun h => h); have kp1q := hSq.at kp1 (fun h => h); go_simp; (try with_reducible rfl))); try simp only [zL])
   refine TG.nil (fun w6 ⟨TR, hr⟩ => ?_)
   replace kp5 := hr.mod.at kp5 (fun h => h)
   replace km := hr.mod.at km (fun h => h)
   replace kp1 := hr.mod.at kp1 (fun h => h)
   clear gK
   have HM6 := Lib.hid (HM4.out.then0 hr.mod)
   obtain ⟨st, es2, cl2, hrE, M2, hF⟩ := HEN.out w6 km
   have hl6 := HLK.out w6 _ _ km (.inl HM.out)
   have km7 := heap_setBlock w6 (.map es2 cl2) (lt_size km)
   have mS7 := mod_set w6 q (.map es2 cl2)
   generalize setBlock w6 q (.map es2 cl2) = w7 at *
   have hl7 := HLK.out w7 _ _ km7 (.inr M2)
   obtain ⟨es3, cl3, hrF, M3⟩ := hF w7 (c + 1) km7
   have km8 := heap_setBlock w7 (.map es3 cl3) (lt_size km7)
   have mS8 := mod_set w7 q (.map es3 cl3)
   generalize setBlock w7 q (.map es3 cl3) = w8 at *
   have HEND : Hid ((∃ es cl, w8.heap[q]? = some (.map es cl) ∧ Hid (MapIs kv nv es cl (cntM (x.ks.l.take (i + 1))))) ∧ Mod (fun j => j = q) w2 w8) := Lib.hid ⟨⟨_, _, km8, Lib.hid (by rw [HT1.out]; exact M3)⟩, (HM6.out.then mS7 (fun _ _ h => h)).then mS8 (fun _ _ h => h)⟩
   simp only [nv] at hrE hrF
   (intro iA hiA hbA; simp only [List.mem_cons, List.not_mem_nil, or_false] at hiA; rcases hiA with rfl | rfl | rfl | rfl | rfl)
   ·clear hbA
    (refine eff_look (by simp only [zK]; rfl) (by rfl) rfl ?hx9 ?hz9 (by first | exact hl6 | exact hl7) ?n9; (case hx9 => simp only [zM]; try rfl); (case hz9 => simp only [zM]; try rfl); try simp only [zL])
    rw [show ([2, 3, 4, 5, 6] : List Nat).erase 2 = [3, 4, 5, 6] from rfl]
    (intro iA hiA hbA; simp only [List.mem_cons, List.not_mem_nil, or_false] at hiA; rcases hiA with rfl | rfl | rfl | rfl)
    ·clear hbA
     (refine eff_value (v := ?v10) (w' := ?w10) (by simp only [zK]; rfl) (by rfl) ?y10 ?n10; (case y10 => (go_simp; (try (first | with_reducible rfl | (constructor <;> with_reducible rfl))))); try simp only [zL])
     rw [show ([3, 4, 5, 6] : List Nat).erase 3 = [4, 5, 6] from rfl]
     (intro iA hiA hbA; simp only [List.mem_cons, List.not_mem_nil, or_false] at hiA; rcases hiA with rfl | rfl | rfl)
     ·clear hbA
      (refine eff_entry (by simp only [zK]; rfl) (by rfl) rfl ?hx11 ?hz11 hrE ?n11; (case hx11 => simp only [zM]; try rfl); (case hz11 => simp only [zM]; try rfl); try simp only [zL])
      rw [show ([4, 5, 6] : List Nat).erase 4 = [5, 6] from rfl]
      (intro iA hiA hbA; simp only [List.mem_cons, List.not_mem_nil, or_false] at hiA; rcases hiA with rfl | rfl)
      ·clear hbA
       (refine eff_value (v := ?v12) (w' := ?w12) (by simp only [zK]; rfl) (by rfl) ?y12 ?n12; (case y12 => (go_simp; (try (first | with_reducible rfl | (constructor <;> with_reducible rfl))))); try simp only [zL])
       rw [show ([5, 6] : List Nat).erase 5 = [6] from rfl]
       (intro iA hiA hbA; simp only [List.mem_cons, List.not_mem_nil, or_false] at hiA; subst hiA)
       ·clear hbA
        (refine eff_estore (by simp only [zK]; rfl) (by rfl) rfl ?hx13 ?hz13 ?hv13 hrF ?n13; (case hx13 => simp only [zM]; try rfl); (case hz13 => simp only [zM]; try rfl); (case hv13 => (simp only [zM]; (try rfl))); try simp only [zL])
        rw [show ([6] : List Nat).erase 6 = [] from rfl]
        refine allE_nil ?_
        go_wp2_with fail; go_roundw; (exact ⟨i + 1, by omega, by go_num, HEND.out.1, HEND.out.2⟩); (simp [intOf]; omega)
      ·exact no_head (by kernel_rfl) hbA
     ·exact no_head (by kernel_rfl) hbA
     ·exact no_head (by kernel_rfl) hbA
    ·clear hbA
     (refine eff_entry (by simp only [zK]; rfl) (by rfl) rfl ?hx14 ?hz14 hrE ?n14; (case hx14 => simp only [zM]; try rfl); (case hz14 => simp only [zM]; try rfl); try simp only [zL])
     rw [show ([3, 4, 5, 6] : List Nat).erase 4 = [3, 5, 6] from rfl]
     (intro iA hiA hbA; simp only [List.mem_cons, List.not_mem_nil, or_false] at hiA; rcases hiA with rfl | rfl | rfl)
     ·clear hbA
      (refine eff_value (v := ?v15) (w' := ?w15) (by simp only [zK]; rfl) (by rfl) ?y15 ?n15; (case y15 => (go_simp; (try (first | with_reducible rfl | (constructor <;> with_reducible rfl))))); try simp only [zL])
      rw [show ([3, 5, 6] : List Nat).erase 3 = [5, 6] from rfl]
      (intro iA hiA hbA; simp only [List.mem_cons, List.not_mem_nil, or_false] at hiA; rcases hiA with rfl | rfl)
      ·clear hbA
       (refine eff_value (v := ?v16) (w' := ?w16) (by simp only [zK]; rfl) (by rfl) ?y16 ?n16; (case y16 => (go_simp; (try (first | with_reducible rfl | (constructor <;> with_reducible rfl))))); try simp only [zL])
       rw [show ([5, 6] : List Nat).erase 5 = [6] from rfl]
       (intro iA hiA hbA; simp only [List.mem_cons, List.not_mem_nil, or_false] at hiA; subst hiA)
       ·clear hbA
        (refine eff_estore (by simp only [zK]; rfl) (by rfl) rfl ?hx17 ?hz17 ?hv17 hrF ?n17; (case hx17 => simp only [zM]; try rfl); (case hz17 => simp only [zM]; try rfl); (case hv17 => (simp only [zM]; (try rfl))); try simp only [zL])
        rw [show ([6] : List Nat).erase 6 = [] from rfl]
        refine allE_nil ?_
        go_wp2_with fail; go_roundw; (exact ⟨i + 1, by omega, by go_num, HEND.out.1, HEND.out.2⟩); (simp [intOf]; omega)
      ·exact no_head (by kernel_rfl) hbA
     ·clear hbA
      (refine eff_value (v := ?v18) (w' := ?w18) (by simp only [zK]; rfl) (by rfl) ?y18 ?n18; (case y18 => (go_simp; (try (first | with_reducible rfl | (constructor <;> with_reducible rfl))))); try simp only [zL])
      rw [show ([3, 5, 6] : List Nat).erase 5 = [3, 6] from rfl]
      (intro iA hiA hbA; simp only [List.mem_cons, List.not_mem_nil, or_false] at hiA; rcases hiA with rfl | rfl)
      ·clear hbA
       (refine eff_value (v := ?v19) (w' := ?w19) (by simp only [zK]; rfl) (by rfl) ?y19 ?n19; (case y19 => (go_simp; (try (first | with_reducible rfl | (constructor <;> with_reducible rfl))))); try simp only [zL])
       rw [show ([3, 6] : List Nat).erase 3 = [6] from rfl]
       (intro iA hiA hbA; simp only [List.mem_cons, List.not_mem_nil, or_false] at hiA; subst hiA)
       ·clear hbA
        (refine eff_estore (by simp only [zK]; rfl) (by rfl) rfl ?hx20 ?hz20 ?hv20 hrF ?n20; (case hx20 => simp only [zM]; try rfl); (case hz20 => simp only [zM]; try rfl); (case hv20 => (simp only [zM]; (try rfl))); try simp only [zL])
        rw [show ([6] : List Nat).erase 6 = [] from rfl]
        refine allE_nil ?_
        go_wp2_with fail; go_roundw; (exact ⟨i + 1, by omega, by go_num, HEND.out.1, HEND.out.2⟩); (simp [intOf]; omega)
      ·exact no_head (by kernel_rfl) hbA
     ·exact no_head (by kernel_rfl) hbA
    ·exact no_head (by kernel_rfl) hbA
    ·exact no_head (by kernel_rfl) hbA
   ·exact no_head (by kernel_rfl) hbA
   ·clear hbA
    (refine eff_entry (by simp only [zK]; rfl) (by rfl) rfl ?hx21 ?hz21 hrE ?n21; (case hx21 => simp only [zM]; try rfl); (case hz21 => simp only [zM]; try rfl); try simp only [zL])
    rw [show ([2, 3, 4, 5, 6] : List Nat).erase 4 = [2, 3, 5, 6] from rfl]
    (intro iA hiA hbA; simp only [List.mem_cons, List.not_mem_nil, or_false] at hiA; rcases hiA with rfl | rfl | rfl | rfl)
    ·clear hbA
     (refine eff_look (by simp only [zK]; rfl) (by rfl) rfl ?hx22 ?hz22 (by first | exact hl6 | exact hl7) ?n22; (case hx22 => simp only [zM]; try rfl); (case hz22 => simp only [zM]; try rfl); try simp only [zL])
     rw [show ([2, 3, 5, 6] : List Nat).erase 2 = [3, 5, 6] from rfl]
     (intro iA hiA hbA; simp only [List.mem_cons, List.not_mem_nil, or_false] at hiA; rcases hiA with rfl | rfl | rfl)
     ·clear hbA
      (refine eff_value (v := ?v23) (w' := ?w23) (by simp only [zK]; rfl) (by rfl) ?y23 ?n23; (case y23 => (go_simp; (try (first | with_reducible rfl | (constructor <;> with_reducible rfl))))); try simp only [zL])
      rw [show ([3, 5, 6] : List Nat).erase 3 = [5, 6] from rfl]
      (intro iA hiA hbA; simp only [List.mem_cons, List.not_mem_nil, or_false] at hiA; rcases hiA with rfl | rfl)
      ·clear hbA
       (refine eff_value (v := ?v24) (w' := ?w24) (by simp only [zK]; rfl) (by rfl) ?y24 ?n24; (case y24 => (go_simp; (try (first | with_reducible rfl | (constructor <;> with_reducible rfl))))); try simp only [zL])
       rw [show ([5, 6] : List Nat).erase 5 = [6] from rfl]
       (intro iA hiA hbA; simp only [List.mem_cons, List.not_mem_nil, or_false] at hiA; subst hiA)
       ·clear hbA
        (refine eff_estore (by simp only [zK]; rfl) (by rfl) rfl ?hx25 ?hz25 ?hv25 hrF ?n25; (case hx25 => simp only [zM]; try rfl); (case hz25 => simp only [zM]; try rfl); (case hv25 => (simp only [zM]; (try rfl))); try simp only [zL])
        rw [show ([6] : List Nat).erase 6 = [] from rfl]
        refine allE_nil ?_
        go_wp2_with fail; go_roundw; (exact ⟨i + 1, by omega, by go_num, HEND.out.1, HEND.out.2⟩); (simp [intOf]; omega)
      ·exact no_head (by kernel_rfl) hbA
     ·clear hbA
      (refine eff_value (v := ?v26) (w' := ?w26) (by simp only [zK]; rfl) (by rfl) ?y26 ?n26; (case y26 => (go_simp; (try (first | with_reducible rfl | (constructor <;> with_reducible rfl))))); try simp only [zL])
      rw [show ([3, 5, 6] : List Nat).erase 5 = [3, 6] from rfl]
      (intro iA hiA hbA; simp only [List.mem_cons, List.not_mem_nil, or_false] at hiA; rcases hiA with rfl | rfl)
      ·clear hbA
       (refine eff_value (v := ?v27) (w' := ?w27) (by simp only [zK]; rfl) (by rfl) ?y27 ?n27; (case y27 => (go_simp; (try (first | with_reducible rfl | (constructor <;> with_reducible rfl))))); try simp only [zL])
       rw [show ([3, 6] : List Nat).erase 3 = [6] from rfl]
       (intro iA hiA hbA; simp only [List.mem_cons, List.not_mem_nil, or_false] at hiA; subst hiA)
       ·clear hbA
        (refine eff_estore (by simp only [zK]; rfl) (by rfl) rfl ?hx28 ?hz28 ?hv28 hrF ?n28; (case hx28 => simp only [zM]; try rfl); (case hz28 => simp only [zM]; try rfl); (case hv28 => (simp only [zM]; (try rfl))); try simp only [zL])
        rw [show ([6] : List Nat).erase 6 = [] from rfl]
        refine allE_nil ?_
        go_wp2_with fail; go_roundw; (exact ⟨i + 1, by omega, by go_num, HEND.out.1, HEND.out.2⟩); (simp [intOf]; omega)
      ·exact no_head (by kernel_rfl) hbA
     ·exact no_head (by kernel_rfl) hbA
    ·exact no_head (by kernel_rfl) hbA
    ·clear hbA
     (refine eff_value (v := ?v29) (w' := ?w29) (by simp only [zK]; rfl) (by rfl) ?y29 ?n29; (case y29 => (go_simp; (try (first | with_reducible rfl | (constructor <;> with_reducible rfl))))); try simp only [zL])
     rw [show ([2, 3, 5, 6] : List Nat).erase 5 = [2, 3, 6] from rfl]
     (intro iA hiA hbA; simp only [List.mem_cons, List.not_mem_nil, or_false] at hiA; rcases hiA with rfl | rfl | rfl)
     ·clear hbA
      (refine eff_look (by simp only [zK]; rfl) (by rfl) rfl ?hx30 ?hz30 (by first | exact hl6 | exact hl7) ?n30; (case hx30 => simp only [zM]; try rfl); (case hz30 => simp only [zM]; try rfl); try simp only [zL])
      rw [show ([2, 3, 6] : List Nat).erase 2 = [3, 6] from rfl]
      (intro iA hiA hbA; simp only [List.mem_cons, List.not_mem_nil, or_false] at hiA; rcases hiA with rfl | rfl)
      ·clear hbA
       (refine eff_value (v := ?v31) (w' := ?w31) (by simp only [zK]; rfl) (by rfl) ?y31 ?n31; (case y31 => (go_simp; (try (first | with_reducible rfl | (constructor <;> with_reducible rfl))))); try simp only [zL])
       rw [show ([3, 6] : List Nat).erase 3 = [6] from rfl]
       (intro iA hiA hbA; simp only [List.mem_cons, List.not_mem_nil, or_false] at hiA; subst hiA)
       ·clear hbA
        (refine eff_estore (by simp only [zK]; rfl) (by rfl) rfl ?hx32 ?hz32 ?hv32 hrF ?n32; (case hx32 => simp only [zM]; try rfl); (case hz32 => simp only [zM]; try rfl); (case hv32 => (simp only [zM]; (try rfl))); try simp only [zL])
        rw [show ([6] : List Nat).erase 6 = [] from rfl]
        refine allE_nil ?_
        go_wp2_with fail; go_roundw; (exact ⟨i + 1, by omega, by go_num, HEND.out.1, HEND.out.2⟩); (simp [intOf]; omega)
      ·exact no_head (by kernel_rfl) hbA
     ·exact no_head (by kernel_rfl) hbA
     ·exact no_head (by kernel_rfl) hbA
    ·exact no_head (by kernel_rfl) hbA
   ·exact no_head (by kernel_rfl) hbA
   ·exact no_head (by kernel_rfl) hbA
  ·have hd := decide_eq_false hlt
   obtain rfl : n = i := by omega
   have hl := fun ty => HM.out.len (P := Tryz.prog) (ty := ty) Tryz.underlying148 wr km
   rw [List.take_of_length_le (by have := HN.out; omega)] at hl
   rw [HTT.out] at hl
   have HF : Hid (Mod (fun _ => False) w wr) := Lib.hid (HM3.out.mono (fun j h1 h2 => by have h3 : j = q := h2; omega))
   clear hm HM3
   by_cases h0 : t = n
   ·have hd1 := decide_eq_true h0
    have hd2 : decide ((t : Int) = (n : Int)) = true := decide_eq_true (by omega)
    go_wp2_with fail
    go_ret
    exact ⟨by first | rfl | (simp [h0]; done), HF.out⟩
   ·have hd1 := decide_eq_false h0
    have hd2 : decide ((t : Int) = (n : Int)) = false := decide_eq_false (by omega)
    go_wp2_with fail
    go_ret
    exact ⟨by first | rfl | (simp [h0]; done) | (simp [h0]; omega), HF.out⟩
end Go.Proofs.YtiaehkkkcaeaiaaGreatDoor
