/- What is told of a packet (api.Ready): how it lies. -/
import Derived.Test.YtofpnmoeimjnnaaRo
import Derived.Test.YtofpnmoeimjnnaaKs
namespace Go.Proofs.Ytofpnmoeimjnnaa
open Go.RowKit
open Go.ChangeMaps (setBlock)
set_option linter.unusedSimpArgs false
set_option linter.unusedVariables false
/-- A key between other cells. -/
def mx (pre : List Value) (k : Key) (post : List Value) : Array Value := (pre ++ (k.l.map bc ++ post)).toArray
section
variable {pre post : List Value} {k : Key}
theorem mx_size (pre : List Value) (k : Key) (post : List Value) : (mx pre k post).size = pre.length + (32 + post.length) := by simp [mx, k.h]
theorem mx_pre {i : Nat} (h : i < pre.length) : (mx pre k post)[i]? = pre[i]? := by
  simp only [mx, zA]
  rw [List.getElem?_append_left h]
theorem mx_post (j : Nat) : (mx pre k post)[pre.length + (32 + j)]? = post[j]? := by
  simp only [mx, zA]
  rw [List.getElem?_append_right (by omega), Nat.add_sub_cancel_left, List.getElem?_append_right (by simp [k.h]), List.length_map, k.h, Nat.add_sub_cancel_left]
theorem mx_setpre {i : Nat} (h : i < pre.length) (v : Value) : (mx pre k post).setIfInBounds i v = mx (pre.set i v) k post := by
  simp only [mx, zF]
  rw [List.set_append_left _ _ h]
theorem mx_setpost (j : Nat) (v : Value) : (mx pre k post).setIfInBounds (pre.length + (32 + j)) v = mx pre k (post.set j v) := by
  simp only [mx, zF]
  rw [List.set_append_right _ _ (by omega), Nat.add_sub_cancel_left, List.set_append_right _ _ (by simp [k.h]), List.length_map, k.h, Nat.add_sub_cancel_left]
theorem mx_one (h1 : pre.all (·.oneCell') = true) (h2 : post.all (·.oneCell') = true) : (mx pre k post).all (·.oneCell') = true := by
  rw [Array.all_eq_true_iff_forall_mem]
  intro v hv
  simp only [mx, List.mem_toArray, List.mem_append, List.mem_map] at hv
  rcases hv with hv | ⟨b, _, rfl⟩ | hv
  · exact List.all_eq_true.1 h1 v hv
  · rfl
  · exact List.all_eq_true.1 h2 v hv
theorem mx_full {n : Nat} (h : n = pre.length + (32 + post.length)) : (mx pre k post).extract 0 n = mx pre k post := by
  rw [h, ← mx_size]
  exact Array.extract_size
end
/-- An instruction, a lookup: with where their bytes lie. -/
structure InR where
  p : UInt8
  a : Sl UInt8
  d : Sl UInt8
def inr (x : InR) : Array Value := #[.int .u8 (x.p.toNat : Int), .slice x.a.a x.a.l.length x.a.c, .slice x.d.a x.d.l.length x.d.c]
structure LoR where
  t : Key
  w : Sl UInt8
  r : Sl UInt8
def lor (x : LoR) : Array Value := kx x.t [.slice x.w.a x.w.l.length x.w.c, .slice x.r.a x.r.l.length x.r.c]
/-- What is told of a packet, with where its lists lie. -/
structure RdR where
  b : Sl UInt8
  sg : Sl Sg
  v0 : Bool
  h0 : UInt8
  h1 : UInt8
  h2 : UInt8
  ks : Sl Key
  rc : Key
  ins : Sl InR
  lks : Sl LoR
  ro : Sl Role
  un : UInt64
  pr : UInt64
  bad : Int64
  fee : UInt64
  cost : UInt64
  prio : UInt64
abbrev u64v (x : UInt64) : Value := .int .u64 (x.toNat : Int)
abbrev u8v (x : UInt8) : Value := .int .u8 (x.toNat : Int)
def rpre (x : RdR) : List Value := [.slice x.b.a x.b.l.length x.b.c, .slice x.sg.a x.sg.l.length x.sg.c, .bool x.v0, u8v x.h0, u8v x.h1, u8v x.h2, .slice x.ks.a x.ks.l.length x.ks.c]
def rpost (x : RdR) : List Value := [.slice x.ins.a x.ins.l.length x.ins.c, .slice x.lks.a x.lks.l.length x.lks.c, .slice x.ro.a x.ro.l.length x.ro.c, u64v x.un, u64v x.pr, .int .i64 x.bad.toInt, u64v x.fee, u64v x.cost, u64v x.prio]
def rdr (x : RdR) : Array Value := mx (rpre x) x.rc (rpost x)
theorem rdr_size (x : RdR) : (rdr x).size = 48 := mx_size _ _ _
theorem rdr_all (x : RdR) : (rdr x).extract 0 48 = rdr x := mx_full rfl
theorem rdr_one (x : RdR) : (rdr x).all (·.oneCell') 0 48 = true := all_of (rdr_size x) (mx_one rfl rfl)
theorem rdr_one' (x : RdR) : (rdr x).all (·.oneCell') = true := mx_one rfl rfl
theorem at_get {xs : Array Value} {i : Nat} {v : Value} (h : xs[i]? = some v) (hi : i < xs.size) : xs[i] = v := (Array.getElem?_eq_some_iff.1 h).2
theorem rdr0 (x : RdR) : (rdr x)[0]? = some (.slice x.b.a x.b.l.length x.b.c) := mx_pre (i := 0) (by simp [rpre])
theorem rdr1 (x : RdR) : (rdr x)[1]? = some (.slice x.sg.a x.sg.l.length x.sg.c) := mx_pre (i := 1) (by simp [rpre])
theorem rdr6 (x : RdR) : (rdr x)[6]? = some (.slice x.ks.a x.ks.l.length x.ks.c) := mx_pre (i := 6) (by simp [rpre])
theorem rdr39 (x : RdR) : (rdr x)[39]? = some (.slice x.ins.a x.ins.l.length x.ins.c) := mx_post 0
theorem rdr40 (x : RdR) : (rdr x)[40]? = some (.slice x.lks.a x.lks.l.length x.lks.c) := mx_post 1
theorem rdr41 (x : RdR) : (rdr x)[41]? = some (.slice x.ro.a x.ro.l.length x.ro.c) := mx_post 2
theorem rdr47 (x : RdR) : (rdr x)[47]? = some (u64v x.prio) := mx_post 8
theorem rdr0' (x : RdR) (h : 0 < (rdr x).size) : (rdr x)[0] = .slice x.b.a x.b.l.length x.b.c := at_get (rdr0 x) h
theorem rdr1' (x : RdR) (h : 1 < (rdr x).size) : (rdr x)[1] = .slice x.sg.a x.sg.l.length x.sg.c := at_get (rdr1 x) h
theorem rdr6' (x : RdR) (h : 6 < (rdr x).size) : (rdr x)[6] = .slice x.ks.a x.ks.l.length x.ks.c := at_get (rdr6 x) h
theorem rdr39' (x : RdR) (h : 39 < (rdr x).size) : (rdr x)[39] = .slice x.ins.a x.ins.l.length x.ins.c := at_get (rdr39 x) h
theorem rdr40' (x : RdR) (h : 40 < (rdr x).size) : (rdr x)[40] = .slice x.lks.a x.lks.l.length x.lks.c := at_get (rdr40 x) h
theorem rdr41' (x : RdR) (h : 41 < (rdr x).size) : (rdr x)[41] = .slice x.ro.a x.ro.l.length x.ro.c := at_get (rdr41 x) h
theorem rdr47' (x : RdR) (h : 47 < (rdr x).size) : (rdr x)[47] = u64v x.prio := at_get (rdr47 x) h
section
variable {x : RdR} {a : Option Addr} {c n : Nat}
theorem set_b (l : List UInt8) (hn : l.length = n) : (rdr x).setIfInBounds 0 (.slice a n c) = rdr { x with b := ⟨a, l, c⟩ } := by
  subst hn
  exact mx_setpre (i := 0) (by simp [rpre]) _
theorem set_sg (l : List Sg) (hn : l.length = n) : (rdr x).setIfInBounds 1 (.slice a n c) = rdr { x with sg := ⟨a, l, c⟩ } := by
  subst hn
  exact mx_setpre (i := 1) (by simp [rpre]) _
theorem set_ks (l : List Key) (hn : l.length = n) : (rdr x).setIfInBounds 6 (.slice a n c) = rdr { x with ks := ⟨a, l, c⟩ } := by
  subst hn
  exact mx_setpre (i := 6) (by simp [rpre]) _
theorem set_ins (l : List InR) (hn : l.length = n) : (rdr x).setIfInBounds 39 (.slice a n c) = rdr { x with ins := ⟨a, l, c⟩ } := by
  subst hn
  exact mx_setpost 0 _
theorem set_lks (l : List LoR) (hn : l.length = n) : (rdr x).setIfInBounds 40 (.slice a n c) = rdr { x with lks := ⟨a, l, c⟩ } := by
  subst hn
  exact mx_setpost 1 _
theorem set_ro (l : List Role) (hn : l.length = n) : (rdr x).setIfInBounds 41 (.slice a n c) = rdr { x with ro := ⟨a, l, c⟩ } := by
  subst hn
  exact mx_setpost 2 _
end
def key0 : Key := ⟨List.replicate 32 0, rfl⟩
def rd0 : RdR := ⟨⟨none, [], 0⟩, ⟨none, [], 0⟩, false, 0, 0, 0, ⟨none, [], 0⟩, key0, ⟨none, [], 0⟩, ⟨none, [], 0⟩, ⟨none, [], 0⟩, 0, 0, 0, 0, 0, 0⟩
def zRdy : Array Value := rdr rd0
theorem zRdy_size : zRdy.size = 48 := rdr_size _
def zIn : Array Value := inr ⟨0, ⟨none, [], 0⟩, ⟨none, [], 0⟩⟩
def zLo : Array Value := lor ⟨key0, ⟨none, [], 0⟩, ⟨none, [], 0⟩⟩
def zSg : Array Value := Array.replicate 64 (.int .u8 0)
theorem ldRdy (w : World) (b o : Nat) : (Instr.loadAt 61 (.pointer (some ⟨b, o, none⟩))).run Try.prog w =
      match w.heap[b]? with
      | some (.cells cs _ _) => if o + 48 ≤ cs.size then .ok (.agg (cs.extract o (o + 48))) w else farL Try.prog w 61 b o
      | _ => farL Try.prog w 61 b o := load_rule (d := _) Try.underlying61 rfl (by kernel_rfl) w b o
theorem stRdy (w : World) (b o : Nat) (xs : Array Value) : (Instr.storeAt 61 (.pointer (some ⟨b, o, none⟩)) (.agg xs)).run Try.prog w =
      match w.heap[b]? with
      | some (.cells cs U (0, 0)) =>
        if o + 48 ≤ cs.size ∧ xs.size = 48 ∧ xs.all (·.oneCell') = true then .ok () (setBlock w b (.cells (if o = 0 ∧ 48 = cs.size then xs else wr cs o xs.toList) U (0, 0))) else farS Try.prog w 61 b o (.agg xs)
      | _ => farS Try.prog w 61 b o (.agg xs) := store_rule (by kernel_rfl) w b o xs
theorem wlRdy (dst : Option Tmp) (x : Operand) (ty : TypeId) (pos : String) (after : Array Edge) (g : Option (Nat × Bool)) (a : Act) (w : World) (K : Act → World → Prop) (Q : Exit → Act → World → Prop) :
    Oper.wp Try.prog { dst := dst, op := .load 61 x, type := ty, pos := pos, after := after, guard := g } a w K Q =
      (match a.eval x with
      | .pointer (some ⟨b, o, none⟩) =>
        (match w.heap[b]? with
        | some (.cells cs _ _) => if o + 48 ≤ cs.size then K (a.put dst (.agg (cs.extract o (o + 48)))) w else farW Try.prog { dst := dst, op := .load 61 x, type := ty, pos := pos, after := after, guard := g } a w K Q
        | _ => farW Try.prog { dst := dst, op := .load 61 x, type := ty, pos := pos, after := after, guard := g } a w K Q)
      | _ => farW Try.prog { dst := dst, op := .load 61 x, type := ty, pos := pos, after := after, guard := g } a w K Q) := wp_load_rule (d := _) Try.underlying61 rfl (by kernel_rfl) dst x ty pos after g a w K Q
theorem alRdy (w : World) : (Instr.alloc 61 true (.tuple #[])).run Try.prog w = .ok (.pointer (some ⟨w.heap.size, 0, none⟩)) (w.alloc (.cells zRdy 61)) :=
  run_alloc_row (z := .agg zRdy) (fun w => by kernel_rfl) w
theorem ldIn (w : World) (b o : Nat) : (Instr.loadAt 124 (.pointer (some ⟨b, o, none⟩))).run Try.prog w =
      match w.heap[b]? with
      | some (.cells cs _ _) => if o + 3 ≤ cs.size then .ok (.agg (cs.extract o (o + 3))) w else farL Try.prog w 124 b o
      | _ => farL Try.prog w 124 b o := load_rule (d := _) Try.underlying124 rfl (by kernel_rfl) w b o
theorem stIn (w : World) (b o : Nat) (xs : Array Value) : (Instr.storeAt 124 (.pointer (some ⟨b, o, none⟩)) (.agg xs)).run Try.prog w =
      match w.heap[b]? with
      | some (.cells cs U (0, 0)) =>
        if o + 3 ≤ cs.size ∧ xs.size = 3 ∧ xs.all (·.oneCell') = true then .ok () (setBlock w b (.cells (if o = 0 ∧ 3 = cs.size then xs else wr cs o xs.toList) U (0, 0))) else farS Try.prog w 124 b o (.agg xs)
      | _ => farS Try.prog w 124 b o (.agg xs) := store_rule (by kernel_rfl) w b o xs
theorem wlIn (dst : Option Tmp) (x : Operand) (ty : TypeId) (pos : String) (after : Array Edge) (g : Option (Nat × Bool)) (a : Act) (w : World) (K : Act → World → Prop) (Q : Exit → Act → World → Prop) :
    Oper.wp Try.prog { dst := dst, op := .load 124 x, type := ty, pos := pos, after := after, guard := g } a w K Q =
      (match a.eval x with
      | .pointer (some ⟨b, o, none⟩) =>
        (match w.heap[b]? with
        | some (.cells cs _ _) => if o + 3 ≤ cs.size then K (a.put dst (.agg (cs.extract o (o + 3)))) w else farW Try.prog { dst := dst, op := .load 124 x, type := ty, pos := pos, after := after, guard := g } a w K Q
        | _ => farW Try.prog { dst := dst, op := .load 124 x, type := ty, pos := pos, after := after, guard := g } a w K Q)
      | _ => farW Try.prog { dst := dst, op := .load 124 x, type := ty, pos := pos, after := after, guard := g } a w K Q) := wp_load_rule (d := _) Try.underlying124 rfl (by kernel_rfl) dst x ty pos after g a w K Q
theorem alIn (w : World) : (Instr.alloc 124 true (.tuple #[])).run Try.prog w = .ok (.pointer (some ⟨w.heap.size, 0, none⟩)) (w.alloc (.cells zIn 124)) :=
  run_alloc_row (z := .agg zIn) (fun w => by kernel_rfl) w
theorem ldLo (w : World) (b o : Nat) : (Instr.loadAt 126 (.pointer (some ⟨b, o, none⟩))).run Try.prog w =
      match w.heap[b]? with
      | some (.cells cs _ _) => if o + 34 ≤ cs.size then .ok (.agg (cs.extract o (o + 34))) w else farL Try.prog w 126 b o
      | _ => farL Try.prog w 126 b o := load_rule (d := _) Try.underlying126 rfl (by kernel_rfl) w b o
theorem stLo (w : World) (b o : Nat) (xs : Array Value) : (Instr.storeAt 126 (.pointer (some ⟨b, o, none⟩)) (.agg xs)).run Try.prog w =
      match w.heap[b]? with
      | some (.cells cs U (0, 0)) =>
        if o + 34 ≤ cs.size ∧ xs.size = 34 ∧ xs.all (·.oneCell') = true then .ok () (setBlock w b (.cells (if o = 0 ∧ 34 = cs.size then xs else wr cs o xs.toList) U (0, 0))) else farS Try.prog w 126 b o (.agg xs)
      | _ => farS Try.prog w 126 b o (.agg xs) := store_rule (by kernel_rfl) w b o xs
theorem wlLo (dst : Option Tmp) (x : Operand) (ty : TypeId) (pos : String) (after : Array Edge) (g : Option (Nat × Bool)) (a : Act) (w : World) (K : Act → World → Prop) (Q : Exit → Act → World → Prop) :
    Oper.wp Try.prog { dst := dst, op := .load 126 x, type := ty, pos := pos, after := after, guard := g } a w K Q =
      (match a.eval x with
      | .pointer (some ⟨b, o, none⟩) =>
        (match w.heap[b]? with
        | some (.cells cs _ _) => if o + 34 ≤ cs.size then K (a.put dst (.agg (cs.extract o (o + 34)))) w else farW Try.prog { dst := dst, op := .load 126 x, type := ty, pos := pos, after := after, guard := g } a w K Q
        | _ => farW Try.prog { dst := dst, op := .load 126 x, type := ty, pos := pos, after := after, guard := g } a w K Q)
      | _ => farW Try.prog { dst := dst, op := .load 126 x, type := ty, pos := pos, after := after, guard := g } a w K Q) := wp_load_rule (d := _) Try.underlying126 rfl (by kernel_rfl) dst x ty pos after g a w K Q
theorem alLo (w : World) : (Instr.alloc 126 true (.tuple #[])).run Try.prog w = .ok (.pointer (some ⟨w.heap.size, 0, none⟩)) (w.alloc (.cells zLo 126)) :=
  run_alloc_row (z := .agg zLo) (fun w => by kernel_rfl) w
/-! Lists of each kind. -/
theorem sgT : ElT Try.prog 24 111 sgc 64 64 where
  u := Try.underlying24
  info := by
    obtain ⟨i0, hi, hz0, hz1, hz2⟩ := info_parts (show (Try.prog.info? 111).map (fun i => (i.zero, i.size, i.bytes)) = some (some (.agg zSg), 64, 64) by kernel_rfl)
    exact ⟨i0, _, hi, hz0, hz1, hz2, by simp [Value.cells, zSg]⟩
  pos := by omega
  size := sgc_size
  one := sgc_one
theorem keysT : ElT Try.prog 48 68 kc 32 32 where
  u := Try.underlying48
  info := by
    obtain ⟨i0, hi, hz0, hz1, hz2⟩ := info_parts (show (Try.prog.info? 68).map (fun i => (i.zero, i.size, i.bytes)) = some (some (.agg zKey), 32, 32) by kernel_rfl)
    exact ⟨i0, _, hi, hz0, hz1, hz2, by simp [Value.cells, zKey]⟩
  pos := by omega
  size := kc_size
  one k := by
    have := kc_one k
    rw [Array.all_eq_true_iff_forall_mem] at this
    intro u hu
    exact this u (by simpa using hu)
theorem rolesT : ElT Try.prog 57 121 rcr 34 34 where
  u := Try.underlying57
  info := by
    obtain ⟨i0, hi, hz0, hz1, hz2⟩ := info_parts (show (Try.prog.info? 121).map (fun i => (i.zero, i.size, i.bytes)) = some (some (.agg zRole), 34, 34) by kernel_rfl)
    exact ⟨i0, _, hi, hz0, hz1, hz2, by simp [Value.cells, zRole]⟩
  pos := by omega
  size r := rc_size _ _ _
  one r := by
    have := kx_one r.k [.bool r.s, .bool r.w] rfl
    rw [Array.all_eq_true_iff_forall_mem] at this
    intro u hu
    exact this u (by simpa [rcr, rc] using hu)
def uc (b : UInt8) : Array Value := #[u8v b]
theorem bytesT : ElT Try.prog 45 5 uc 1 1 where
  u := Try.underlying45
  info := by
    obtain ⟨i0, hi, hz0, hz1, hz2⟩ := info_parts (show (Try.prog.info? 5).map (fun i => (i.zero, i.size, i.bytes)) = some (some (.int .u8 0), 1, 1) by kernel_rfl)
    exact ⟨i0, _, hi, hz0, hz1, hz2, rfl⟩
  pos := by omega
  size x := rfl
  one x u hu := by
    simp [uc] at hu
    subst hu
    rfl
theorem instrT : ElT Try.prog 51 124 inr 3 56 where
  u := Try.underlying51
  info := by
    obtain ⟨i0, hi, hz0, hz1, hz2⟩ := info_parts (show (Try.prog.info? 124).map (fun i => (i.zero, i.size, i.bytes)) = some (some (.agg zIn), 3, 56) by kernel_rfl)
    exact ⟨i0, _, hi, hz0, hz1, hz2, rfl⟩
  pos := by omega
  size x := rfl
  one x u hu := by
    simp [inr] at hu
    rcases hu with rfl | rfl | rfl <;> rfl
theorem lookupT : ElT Try.prog 52 126 lor 34 80 where
  u := Try.underlying52
  info := by
    obtain ⟨i0, hi, hz0, hz1, hz2⟩ := info_parts (show (Try.prog.info? 126).map (fun i => (i.zero, i.size, i.bytes)) = some (some (.agg zLo), 34, 80) by kernel_rfl)
    exact ⟨i0, _, hi, hz0, hz1, hz2, by simp [Value.cells, zLo, lor, kx_size]⟩
  pos := by omega
  size x := kx_size _ _
  one x := by
    have := kx_one x.t [.slice x.w.a x.w.l.length x.w.c, .slice x.r.a x.r.l.length x.r.c] rfl
    rw [Array.all_eq_true_iff_forall_mem] at this
    intro u hu
    exact this u (by simpa [lor] using hu)
end Go.Proofs.Ytofpnmoeimjnnaa
