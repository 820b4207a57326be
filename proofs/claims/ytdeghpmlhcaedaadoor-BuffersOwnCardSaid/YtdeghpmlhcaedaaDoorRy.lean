/- What is told of a packet (api.Ready), and an item of a buffer: how they lie. -/
import Derived.Test.YtdeghpmlhcaedaaDoorRo
import Derived.Test.YtdeghpmlhcaedaaDoorRk
namespace Go.Proofs.YtdeghpmlhcaedaaDoor
open Go.RowKit
open Go.ChangeMaps (setBlock)
set_option linter.unusedSimpArgs false
set_option linter.unusedVariables false
/-- A key between other cells. -/
def mx (pre : List Value) (k : Key) (post : List Value) : Array Value := (pre ++ (k.l.map bc ++ post)).toArray
section
variable {pre post : List Value} {k : Key}
theorem mx_size (pre : List Value) (k : Key) (post : List Value) : (mx pre k post).size = pre.length + (32 + post.length) := by simp [mx, k.h]
theorem mx_pre {i : Nat} (h : i < pre.length) : (mx pre k post)[i]? = pre[i]? := by
  simp only [mx, zA]
  rw [List.getElem?_append_left h]
theorem mx_post (j : Nat) : (mx pre k post)[pre.length + (32 + j)]? = post[j]? := by
  simp only [mx, zA]
  rw [List.getElem?_append_right (by omega), Nat.add_sub_cancel_left, List.getElem?_append_right (by simp [k.h]), List.length_map, k.h, Nat.add_sub_cancel_left]
theorem mx_setpre {i : Nat} (h : i < pre.length) (v : Value) : (mx pre k post).setIfInBounds i v = mx (pre.set i v) k post := by
  simp only [mx, zF]
  rw [List.set_append_left _ _ h]
theorem mx_setpost (j : Nat) (v : Value) : (mx pre k post).setIfInBounds (pre.length + (32 + j)) v = mx pre k (post.set j v) := by
  simp only [mx, zF]
  rw [List.set_append_right _ _ (by omega), Nat.add_sub_cancel_left, List.set_append_right _ _ (by simp [k.h]), List.length_map, k.h, Nat.add_sub_cancel_left]
theorem mx_one (h1 : pre.all (·.oneCell') = true) (h2 : post.all (·.oneCell') = true) : (mx pre k post).all (·.oneCell') = true := by
  rw [Array.all_eq_true_iff_forall_mem]
  intro v hv
  simp only [mx, List.mem_toArray, List.mem_append, List.mem_map] at hv
  rcases hv with hv | ⟨b, _, rfl⟩ | hv
  · exact List.all_eq_true.1 h1 v hv
  · rfl
  · exact List.all_eq_true.1 h2 v hv
theorem mx_full {n : Nat} (h : n = pre.length + (32 + post.length)) : (mx pre k post).extract 0 n = mx pre k post := by
  rw [h, ← mx_size]
  exact Array.extract_size
end
/-- A signature. -/
structure Sg where
  l : List UInt8
  h : l.length = 64
def sgc (s : Sg) : Array Value := (s.l.map bc).toArray
theorem sgc_size (s : Sg) : (sgc s).size = 64 := by simp [sgc, s.h]
theorem sgc_one (s : Sg) : ∀ u ∈ (sgc s).toList, u.oneCell' = true := by
  intro v hv
  simp only [sgc, List.mem_map] at hv
  obtain ⟨b, _, rfl⟩ := hv
  rfl
/-- An instruction, a lookup: with where their bytes lie. -/
structure InR where
  p : UInt8
  a : Sl UInt8
  d : Sl UInt8
def inr (x : InR) : Array Value := #[.int .u8 (x.p.toNat : Int), .slice x.a.a x.a.l.length x.a.c, .slice x.d.a x.d.l.length x.d.c]
structure LoR where
  t : Key
  w : Sl UInt8
  r : Sl UInt8
def lor (x : LoR) : Array Value := kx x.t [.slice x.w.a x.w.l.length x.w.c, .slice x.r.a x.r.l.length x.r.c]
/-- What is told of a packet, with where its lists lie. -/
structure RdR where
  b : Sl UInt8
  sg : Sl Sg
  v0 : Bool
  h0 : UInt8
  h1 : UInt8
  h2 : UInt8
  ks : Sl Key
  rc : Key
  ins : Sl InR
  lks : Sl LoR
  ro : Sl Role
  un : UInt64
  pr : UInt64
  bad : Int64
  fee : UInt64
  cost : UInt64
  prio : UInt64
abbrev u64v (x : UInt64) : Value := .int .u64 (x.toNat : Int)
abbrev u8v (x : UInt8) : Value := .int .u8 (x.toNat : Int)
def rpre (x : RdR) : List Value := [.slice x.b.a x.b.l.length x.b.c, .slice x.sg.a x.sg.l.length x.sg.c, .bool x.v0, u8v x.h0, u8v x.h1, u8v x.h2, .slice x.ks.a x.ks.l.length x.ks.c]
def rpost (x : RdR) : List Value := [.slice x.ins.a x.ins.l.length x.ins.c, .slice x.lks.a x.lks.l.length x.lks.c, .slice x.ro.a x.ro.l.length x.ro.c, u64v x.un, u64v x.pr, .int .i64 x.bad.toInt, u64v x.fee, u64v x.cost, u64v x.prio]
def rdr (x : RdR) : Array Value := mx (rpre x) x.rc (rpost x)
theorem rdr_size (x : RdR) : (rdr x).size = 48 := mx_size _ _ _
theorem rdr_all (x : RdR) : (rdr x).extract 0 48 = rdr x := mx_full rfl
theorem rdr_one (x : RdR) : (rdr x).all (·.oneCell') 0 48 = true := all_of (rdr_size x) (mx_one rfl rfl)
theorem rdr_one' (x : RdR) : (rdr x).all (·.oneCell') = true := mx_one rfl rfl
theorem at_get {xs : Array Value} {i : Nat} {v : Value} (h : xs[i]? = some v) (hi : i < xs.size) : xs[i] = v := (Array.getElem?_eq_some_iff.1 h).2
theorem rdr0 (x : RdR) : (rdr x)[0]? = some (.slice x.b.a x.b.l.length x.b.c) := mx_pre (i := 0) (by simp [rpre])
theorem rdr1 (x : RdR) : (rdr x)[1]? = some (.slice x.sg.a x.sg.l.length x.sg.c) := mx_pre (i := 1) (by simp [rpre])
theorem rdr6 (x : RdR) : (rdr x)[6]? = some (.slice x.ks.a x.ks.l.length x.ks.c) := mx_pre (i := 6) (by simp [rpre])
theorem rdr39 (x : RdR) : (rdr x)[39]? = some (.slice x.ins.a x.ins.l.length x.ins.c) := mx_post 0
theorem rdr40 (x : RdR) : (rdr x)[40]? = some (.slice x.lks.a x.lks.l.length x.lks.c) := mx_post 1
theorem rdr41 (x : RdR) : (rdr x)[41]? = some (.slice x.ro.a x.ro.l.length x.ro.c) := mx_post 2
theorem rdr47 (x : RdR) : (rdr x)[47]? = some (u64v x.prio) := mx_post 8
theorem rdr0' (x : RdR) (h : 0 < (rdr x).size) : (rdr x)[0] = .slice x.b.a x.b.l.length x.b.c := at_get (rdr0 x) h
theorem rdr1' (x : RdR) (h : 1 < (rdr x).size) : (rdr x)[1] = .slice x.sg.a x.sg.l.length x.sg.c := at_get (rdr1 x) h
theorem rdr6' (x : RdR) (h : 6 < (rdr x).size) : (rdr x)[6] = .slice x.ks.a x.ks.l.length x.ks.c := at_get (rdr6 x) h
theorem rdr39' (x : RdR) (h : 39 < (rdr x).size) : (rdr x)[39] = .slice x.ins.a x.ins.l.length x.ins.c := at_get (rdr39 x) h
theorem rdr40' (x : RdR) (h : 40 < (rdr x).size) : (rdr x)[40] = .slice x.lks.a x.lks.l.length x.lks.c := at_get (rdr40 x) h
theorem rdr41' (x : RdR) (h : 41 < (rdr x).size) : (rdr x)[41] = .slice x.ro.a x.ro.l.length x.ro.c := at_get (rdr41 x) h
theorem rdr47' (x : RdR) (h : 47 < (rdr x).size) : (rdr x)[47] = u64v x.prio := at_get (rdr47 x) h
section
variable {x : RdR} {a : Option Addr} {c n : Nat}
theorem set_b (l : List UInt8) (hn : l.length = n) : (rdr x).setIfInBounds 0 (.slice a n c) = rdr { x with b := ⟨a, l, c⟩ } := by
  subst hn
  exact mx_setpre (i := 0) (by simp [rpre]) _
theorem set_sg (l : List Sg) (hn : l.length = n) : (rdr x).setIfInBounds 1 (.slice a n c) = rdr { x with sg := ⟨a, l, c⟩ } := by
  subst hn
  exact mx_setpre (i := 1) (by simp [rpre]) _
theorem set_ks (l : List Key) (hn : l.length = n) : (rdr x).setIfInBounds 6 (.slice a n c) = rdr { x with ks := ⟨a, l, c⟩ } := by
  subst hn
  exact mx_setpre (i := 6) (by simp [rpre]) _
theorem set_ins (l : List InR) (hn : l.length = n) : (rdr x).setIfInBounds 39 (.slice a n c) = rdr { x with ins := ⟨a, l, c⟩ } := by
  subst hn
  exact mx_setpost 0 _
theorem set_lks (l : List LoR) (hn : l.length = n) : (rdr x).setIfInBounds 40 (.slice a n c) = rdr { x with lks := ⟨a, l, c⟩ } := by
  subst hn
  exact mx_setpost 1 _
theorem set_ro (l : List Role) (hn : l.length = n) : (rdr x).setIfInBounds 41 (.slice a n c) = rdr { x with ro := ⟨a, l, c⟩ } := by
  subst hn
  exact mx_setpost 2 _
end
/-- An item, with where its lists lie. -/
structure ItR where
  n : UInt64
  r : RdR
  pl : UInt8
  sent : Bool
def itr (y : ItR) : Array Value := mx (u64v y.n :: rpre y.r) y.r.rc (rpost y.r ++ [u8v y.pl, .bool y.sent])
theorem itr_size (y : ItR) : (itr y).size = 51 := mx_size _ _ _
theorem itr_all (y : ItR) : (itr y).extract 0 51 = itr y := mx_full rfl
theorem itr_one (y : ItR) : (itr y).all (·.oneCell') 0 51 = true := all_of (itr_size y) (mx_one rfl rfl)
theorem itr_one' (y : ItR) : (itr y).all (·.oneCell') = true := mx_one rfl rfl
theorem itr_n (y : ItR) : (itr y)[0]? = some (u64v y.n) := mx_pre (i := 0) (by simp [rpre])
theorem itr_prio (y : ItR) : (itr y)[48]? = some (u64v y.r.prio) := mx_post (pre := u64v y.n :: rpre y.r) 8
theorem itr_pl (y : ItR) : (itr y)[49]? = some (u8v y.pl) := mx_post (pre := u64v y.n :: rpre y.r) 9
theorem itr_sent (y : ItR) : (itr y)[50]? = some (.bool y.sent) := mx_post (pre := u64v y.n :: rpre y.r) 10
theorem itr_n' (y : ItR) (h : 0 < (itr y).size) : (itr y)[0] = u64v y.n := at_get (itr_n y) h
theorem itr_prio' (y : ItR) (h : 48 < (itr y).size) : (itr y)[48] = u64v y.r.prio := at_get (itr_prio y) h
theorem itr_pl' (y : ItR) (h : 49 < (itr y).size) : (itr y)[49] = u8v y.pl := at_get (itr_pl y) h
theorem itr_sent' (y : ItR) (h : 50 < (itr y).size) : (itr y)[50] = .bool y.sent := at_get (itr_sent y) h
theorem itr_r (y : ItR) : (itr y).extract 1 49 = rdr y.r := by
  apply Array.toList_inj.1
  rw [Array.toList_extract]
  show (((u64v y.n :: rpre y.r) ++ (y.r.rc.l.map bc ++ (rpost y.r ++ [u8v y.pl, .bool y.sent]))).drop 1).take (49 - 1) = rpre y.r ++ (y.r.rc.l.map bc ++ rpost y.r)
  rw [List.cons_append, List.drop_succ_cons, List.drop_zero, ← List.append_assoc (y.r.rc.l.map bc), ← List.append_assoc (rpre y.r)]
  have hl : (rpre y.r ++ (y.r.rc.l.map bc ++ rpost y.r)).length = 48 := by simp [rpre, rpost, y.r.rc.h]
  rw [List.take_append_of_le_length (by omega), List.take_of_length_le (by omega)]
theorem set_pl (y : ItR) (p : UInt8) : (itr y).setIfInBounds 49 (u8v p) = itr { y with pl := p } := mx_setpost (pre := u64v y.n :: rpre y.r) 9 _
theorem set_sent (y : ItR) (b : Bool) : (itr y).setIfInBounds 50 (.bool b) = itr { y with sent := b } := mx_setpost (pre := u64v y.n :: rpre y.r) 10 _
theorem set_r (y : ItR) (x : RdR) : wr (itr y) 1 (rdr x).toList = itr { y with r := x } := by
  apply Array.toList_inj.1
  rw [wr_list _ _ _ (by rw [Array.length_toList, rdr_size, itr_size]; omega)]
  have hl : (rdr x).toList.length = 48 := by rw [Array.length_toList, rdr_size]
  rw [hl]
  have e : (itr y).toList = ((u64v y.n :: (rpre y.r ++ (y.r.rc.l.map bc ++ rpost y.r))) ++ [u8v y.pl, .bool y.sent]) := by
    show ((u64v y.n :: rpre y.r) ++ (y.r.rc.l.map bc ++ (rpost y.r ++ [u8v y.pl, .bool y.sent]))) = _
    simp
  have h48 : (u64v y.n :: (rpre y.r ++ (y.r.rc.l.map bc ++ rpost y.r))).length = 1 + 48 := by simp [rpre, rpost, y.r.rc.h]
  rw [e]
  conv => lhs; rhs; rw [← h48, List.drop_left]
  show (u64v y.n :: (rdr x).toList) ++ _ = (u64v y.n :: rpre x) ++ (x.rc.l.map bc ++ (rpost x ++ [u8v y.pl, .bool y.sent]))
  show (u64v y.n :: (rpre x ++ (x.rc.l.map bc ++ rpost x))) ++ _ = _
  simp
def key0 : Key := ⟨List.replicate 32 0, rfl⟩
def rd0 : RdR := ⟨⟨none, [], 0⟩, ⟨none, [], 0⟩, false, 0, 0, 0, ⟨none, [], 0⟩, key0, ⟨none, [], 0⟩, ⟨none, [], 0⟩, ⟨none, [], 0⟩, 0, 0, 0, 0, 0, 0⟩
def zRdy : Array Value := rdr rd0
theorem zRdy_size : zRdy.size = 48 := rdr_size _
def it0 : ItR := ⟨0, rd0, 0, false⟩
def zItem : Array Value := itr it0
theorem zItem_size : zItem.size = 51 := itr_size _
def zIn : Array Value := inr ⟨0, ⟨none, [], 0⟩, ⟨none, [], 0⟩⟩
def zLo : Array Value := lor ⟨key0, ⟨none, [], 0⟩, ⟨none, [], 0⟩⟩
def zSg : Array Value := Array.replicate 64 (.int .u8 0)
theorem ldRdy (w : World) (b o : Nat) : (Instr.loadAt 48 (.pointer (some ⟨b, o, none⟩))).run Tryd.prog w =
      match w.heap[b]? with
      | some (.cells cs _ _) => if o + 48 ≤ cs.size then .ok (.agg (cs.extract o (o + 48))) w else farL Tryd.prog w 48 b o
      | _ => farL Tryd.prog w 48 b o := load_rule (d := _) Tryd.underlying48 rfl (by kernel_rfl) w b o
theorem stRdy (w : World) (b o : Nat) (xs : Array Value) : (Instr.storeAt 48 (.pointer (some ⟨b, o, none⟩)) (.agg xs)).run Tryd.prog w =
      match w.heap[b]? with
      | some (.cells cs U (0, 0)) =>
        if o + 48 ≤ cs.size ∧ xs.size = 48 ∧ xs.all (·.oneCell') = true then .ok () (setBlock w b (.cells (if o = 0 ∧ 48 = cs.size then xs else wr cs o xs.toList) U (0, 0))) else farS Tryd.prog w 48 b o (.agg xs)
      | _ => farS Tryd.prog w 48 b o (.agg xs) := store_rule (by kernel_rfl) w b o xs
theorem wlRdy (dst : Option Tmp) (x : Operand) (ty : TypeId) (pos : String) (after : Array Edge) (g : Option (Nat × Bool)) (a : Act) (w : World) (K : Act → World → Prop) (Q : Exit → Act → World → Prop) :
    Oper.wp Tryd.prog { dst := dst, op := .load 48 x, type := ty, pos := pos, after := after, guard := g } a w K Q =
      (match a.eval x with
      | .pointer (some ⟨b, o, none⟩) =>
        (match w.heap[b]? with
        | some (.cells cs _ _) => if o + 48 ≤ cs.size then K (a.put dst (.agg (cs.extract o (o + 48)))) w else farW Tryd.prog { dst := dst, op := .load 48 x, type := ty, pos := pos, after := after, guard := g } a w K Q
        | _ => farW Tryd.prog { dst := dst, op := .load 48 x, type := ty, pos := pos, after := after, guard := g } a w K Q)
      | _ => farW Tryd.prog { dst := dst, op := .load 48 x, type := ty, pos := pos, after := after, guard := g } a w K Q) := wp_load_rule (d := _) Tryd.underlying48 rfl (by kernel_rfl) dst x ty pos after g a w K Q
theorem alRdy (w : World) : (Instr.alloc 48 true (.tuple #[])).run Tryd.prog w = .ok (.pointer (some ⟨w.heap.size, 0, none⟩)) (w.alloc (.cells zRdy 48)) :=
  run_alloc_row (z := .agg zRdy) (fun w => by kernel_rfl) w
theorem ldItem (w : World) (b o : Nat) : (Instr.loadAt 55 (.pointer (some ⟨b, o, none⟩))).run Tryd.prog w =
      match w.heap[b]? with
      | some (.cells cs _ _) => if o + 51 ≤ cs.size then .ok (.agg (cs.extract o (o + 51))) w else farL Tryd.prog w 55 b o
      | _ => farL Tryd.prog w 55 b o := load_rule (d := _) Tryd.underlying55 rfl (by kernel_rfl) w b o
theorem stItem (w : World) (b o : Nat) (xs : Array Value) : (Instr.storeAt 55 (.pointer (some ⟨b, o, none⟩)) (.agg xs)).run Tryd.prog w =
      match w.heap[b]? with
      | some (.cells cs U (0, 0)) =>
        if o + 51 ≤ cs.size ∧ xs.size = 51 ∧ xs.all (·.oneCell') = true then .ok () (setBlock w b (.cells (if o = 0 ∧ 51 = cs.size then xs else wr cs o xs.toList) U (0, 0))) else farS Tryd.prog w 55 b o (.agg xs)
      | _ => farS Tryd.prog w 55 b o (.agg xs) := store_rule (by kernel_rfl) w b o xs
theorem wlItem (dst : Option Tmp) (x : Operand) (ty : TypeId) (pos : String) (after : Array Edge) (g : Option (Nat × Bool)) (a : Act) (w : World) (K : Act → World → Prop) (Q : Exit → Act → World → Prop) :
    Oper.wp Tryd.prog { dst := dst, op := .load 55 x, type := ty, pos := pos, after := after, guard := g } a w K Q =
      (match a.eval x with
      | .pointer (some ⟨b, o, none⟩) =>
        (match w.heap[b]? with
        | some (.cells cs _ _) => if o + 51 ≤ cs.size then K (a.put dst (.agg (cs.extract o (o + 51)))) w else farW Tryd.prog { dst := dst, op := .load 55 x, type := ty, pos := pos, after := after, guard := g } a w K Q
        | _ => farW Tryd.prog { dst := dst, op := .load 55 x, type := ty, pos := pos, after := after, guard := g } a w K Q)
      | _ => farW Tryd.prog { dst := dst, op := .load 55 x, type := ty, pos := pos, after := after, guard := g } a w K Q) := wp_load_rule (d := _) Tryd.underlying55 rfl (by kernel_rfl) dst x ty pos after g a w K Q
theorem alItem (w : World) : (Instr.alloc 55 true (.tuple #[])).run Tryd.prog w = .ok (.pointer (some ⟨w.heap.size, 0, none⟩)) (w.alloc (.cells zItem 55)) :=
  run_alloc_row (z := .agg zItem) (fun w => by kernel_rfl) w
theorem ldIn (w : World) (b o : Nat) : (Instr.loadAt 71 (.pointer (some ⟨b, o, none⟩))).run Tryd.prog w =
      match w.heap[b]? with
      | some (.cells cs _ _) => if o + 3 ≤ cs.size then .ok (.agg (cs.extract o (o + 3))) w else farL Tryd.prog w 71 b o
      | _ => farL Tryd.prog w 71 b o := load_rule (d := _) Tryd.underlying71 rfl (by kernel_rfl) w b o
theorem stIn (w : World) (b o : Nat) (xs : Array Value) : (Instr.storeAt 71 (.pointer (some ⟨b, o, none⟩)) (.agg xs)).run Tryd.prog w =
      match w.heap[b]? with
      | some (.cells cs U (0, 0)) =>
        if o + 3 ≤ cs.size ∧ xs.size = 3 ∧ xs.all (·.oneCell') = true then .ok () (setBlock w b (.cells (if o = 0 ∧ 3 = cs.size then xs else wr cs o xs.toList) U (0, 0))) else farS Tryd.prog w 71 b o (.agg xs)
      | _ => farS Tryd.prog w 71 b o (.agg xs) := store_rule (by kernel_rfl) w b o xs
theorem wlIn (dst : Option Tmp) (x : Operand) (ty : TypeId) (pos : String) (after : Array Edge) (g : Option (Nat × Bool)) (a : Act) (w : World) (K : Act → World → Prop) (Q : Exit → Act → World → Prop) :
    Oper.wp Tryd.prog { dst := dst, op := .load 71 x, type := ty, pos := pos, after := after, guard := g } a w K Q =
      (match a.eval x with
      | .pointer (some ⟨b, o, none⟩) =>
        (match w.heap[b]? with
        | some (.cells cs _ _) => if o + 3 ≤ cs.size then K (a.put dst (.agg (cs.extract o (o + 3)))) w else farW Tryd.prog { dst := dst, op := .load 71 x, type := ty, pos := pos, after := after, guard := g } a w K Q
        | _ => farW Tryd.prog { dst := dst, op := .load 71 x, type := ty, pos := pos, after := after, guard := g } a w K Q)
      | _ => farW Tryd.prog { dst := dst, op := .load 71 x, type := ty, pos := pos, after := after, guard := g } a w K Q) := wp_load_rule (d := _) Tryd.underlying71 rfl (by kernel_rfl) dst x ty pos after g a w K Q
theorem alIn (w : World) : (Instr.alloc 71 true (.tuple #[])).run Tryd.prog w = .ok (.pointer (some ⟨w.heap.size, 0, none⟩)) (w.alloc (.cells zIn 71)) :=
  run_alloc_row (z := .agg zIn) (fun w => by kernel_rfl) w
theorem ldLo (w : World) (b o : Nat) : (Instr.loadAt 73 (.pointer (some ⟨b, o, none⟩))).run Tryd.prog w =
      match w.heap[b]? with
      | some (.cells cs _ _) => if o + 34 ≤ cs.size then .ok (.agg (cs.extract o (o + 34))) w else farL Tryd.prog w 73 b o
      | _ => farL Tryd.prog w 73 b o := load_rule (d := _) Tryd.underlying73 rfl (by kernel_rfl) w b o
theorem stLo (w : World) (b o : Nat) (xs : Array Value) : (Instr.storeAt 73 (.pointer (some ⟨b, o, none⟩)) (.agg xs)).run Tryd.prog w =
      match w.heap[b]? with
      | some (.cells cs U (0, 0)) =>
        if o + 34 ≤ cs.size ∧ xs.size = 34 ∧ xs.all (·.oneCell') = true then .ok () (setBlock w b (.cells (if o = 0 ∧ 34 = cs.size then xs else wr cs o xs.toList) U (0, 0))) else farS Tryd.prog w 73 b o (.agg xs)
      | _ => farS Tryd.prog w 73 b o (.agg xs) := store_rule (by kernel_rfl) w b o xs
theorem wlLo (dst : Option Tmp) (x : Operand) (ty : TypeId) (pos : String) (after : Array Edge) (g : Option (Nat × Bool)) (a : Act) (w : World) (K : Act → World → Prop) (Q : Exit → Act → World → Prop) :
    Oper.wp Tryd.prog { dst := dst, op := .load 73 x, type := ty, pos := pos, after := after, guard := g } a w K Q =
      (match a.eval x with
      | .pointer (some ⟨b, o, none⟩) =>
        (match w.heap[b]? with
        | some (.cells cs _ _) => if o + 34 ≤ cs.size then K (a.put dst (.agg (cs.extract o (o + 34)))) w else farW Tryd.prog { dst := dst, op := .load 73 x, type := ty, pos := pos, after := after, guard := g } a w K Q
        | _ => farW Tryd.prog { dst := dst, op := .load 73 x, type := ty, pos := pos, after := after, guard := g } a w K Q)
      | _ => farW Tryd.prog { dst := dst, op := .load 73 x, type := ty, pos := pos, after := after, guard := g } a w K Q) := wp_load_rule (d := _) Tryd.underlying73 rfl (by kernel_rfl) dst x ty pos after g a w K Q
theorem alLo (w : World) : (Instr.alloc 73 true (.tuple #[])).run Tryd.prog w = .ok (.pointer (some ⟨w.heap.size, 0, none⟩)) (w.alloc (.cells zLo 73)) :=
  run_alloc_row (z := .agg zLo) (fun w => by kernel_rfl) w
theorem bldItem (n : UInt64) (x : RdR) (w : World) : (Instr.build 55 #[(0, u64v n), (1, .agg (rdr x))]).run Tryd.prog w = .ok (.agg (itr ⟨n, x, 0, false⟩)) w := by
  refine run_build_struct (z := .agg zItem) (places := #[(0, 1), (1, 48), (49, 1), (50, 1)]) Tryd.underlying55 (fun w => by kernel_rfl) (fun w => by kernel_rfl) ?_ w
  show Instr.fill _ zItem [(0, _), (1, _)] = _
  rw [fill_cons (off := 0) (n := 1) rfl rfl (by rw [zItem_size]; omega), fill_cons (off := 1) (n := 48) rfl (by simp [Value.cells, rdr_size]) (by rw [wr_size, zItem_size]; omega)]
  refine congrArg some ?_
  have e : wr zItem 0 (u64v n).cells.toList = itr { it0 with n := n } := by
    show zItem.setIfInBounds 0 (u64v n) = _
    exact mx_setpre (i := 0) (by simp [rpre]) _
  rw [e]
  exact set_r _ x
/-! Lists of each kind. -/
theorem sgT : ElT Tryd.prog 32 77 sgc 64 64 where
  u := Tryd.underlying32
  info := by
    obtain ⟨i0, hi, hz0, hz1, hz2⟩ := info_parts (show (Tryd.prog.info? 77).map (fun i => (i.zero, i.size, i.bytes)) = some (some (.agg zSg), 64, 64) by kernel_rfl)
    exact ⟨i0, _, hi, hz0, hz1, hz2, by simp [Value.cells, zSg]⟩
  pos := by omega
  size := sgc_size
  one := sgc_one
theorem keysT : ElT Tryd.prog 35 69 kc 32 32 where
  u := Tryd.underlying35
  info := by
    obtain ⟨i0, hi, hz0, hz1, hz2⟩ := info_parts (show (Tryd.prog.info? 69).map (fun i => (i.zero, i.size, i.bytes)) = some (some (.agg zKey), 32, 32) by kernel_rfl)
    exact ⟨i0, _, hi, hz0, hz1, hz2, by simp [Value.cells, zKey]⟩
  pos := by omega
  size := kc_size
  one k := by
    have := kc_one k
    rw [Array.all_eq_true_iff_forall_mem] at this
    intro u hu
    exact this u (by simpa using hu)
theorem rolesT : ElT Tryd.prog 44 75 rcr 34 34 where
  u := Tryd.underlying44
  info := by
    obtain ⟨i0, hi, hz0, hz1, hz2⟩ := info_parts (show (Tryd.prog.info? 75).map (fun i => (i.zero, i.size, i.bytes)) = some (some (.agg zRole), 34, 34) by kernel_rfl)
    exact ⟨i0, _, hi, hz0, hz1, hz2, by simp [Value.cells, zRole]⟩
  pos := by omega
  size r := rc_size _ _ _
  one r := by
    have := kx_one r.k [.bool r.s, .bool r.w] rfl
    rw [Array.all_eq_true_iff_forall_mem] at this
    intro u hu
    exact this u (by simpa [rcr, rc] using hu)
def uc (b : UInt8) : Array Value := #[u8v b]
theorem bytesT : ElT Tryd.prog 31 5 uc 1 1 where
  u := Tryd.underlying31
  info := by
    obtain ⟨i0, hi, hz0, hz1, hz2⟩ := info_parts (show (Tryd.prog.info? 5).map (fun i => (i.zero, i.size, i.bytes)) = some (some (.int .u8 0), 1, 1) by kernel_rfl)
    exact ⟨i0, _, hi, hz0, hz1, hz2, rfl⟩
  pos := by omega
  size x := rfl
  one x u hu := by
    simp [uc] at hu
    subst hu
    rfl
theorem instrT : ElT Tryd.prog 38 71 inr 3 56 where
  u := Tryd.underlying38
  info := by
    obtain ⟨i0, hi, hz0, hz1, hz2⟩ := info_parts (show (Tryd.prog.info? 71).map (fun i => (i.zero, i.size, i.bytes)) = some (some (.agg zIn), 3, 56) by kernel_rfl)
    exact ⟨i0, _, hi, hz0, hz1, hz2, rfl⟩
  pos := by omega
  size x := rfl
  one x u hu := by
    simp [inr] at hu
    rcases hu with rfl | rfl | rfl <;> rfl
theorem lookupT : ElT Tryd.prog 39 73 lor 34 80 where
  u := Tryd.underlying39
  info := by
    obtain ⟨i0, hi, hz0, hz1, hz2⟩ := info_parts (show (Tryd.prog.info? 73).map (fun i => (i.zero, i.size, i.bytes)) = some (some (.agg zLo), 34, 80) by kernel_rfl)
    exact ⟨i0, _, hi, hz0, hz1, hz2, by simp [Value.cells, zLo, lor, kx_size]⟩
  pos := by omega
  size x := kx_size _ _
  one x := by
    have := kx_one x.t [.slice x.w.a x.w.l.length x.w.c, .slice x.r.a x.r.l.length x.r.c] rfl
    rw [Array.all_eq_true_iff_forall_mem] at this
    intro u hu
    exact this u (by simpa [lor] using hu)
end Go.Proofs.YtdeghpmlhcaedaaDoor
