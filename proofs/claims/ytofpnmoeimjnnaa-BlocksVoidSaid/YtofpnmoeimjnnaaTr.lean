/- A transaction that ran (blocks.Tried), its outcome, its transaction and message: how they lie. -/
import Derived.Test.YtofpnmoeimjnnaaAd
namespace Go.Proofs.Ytofpnmoeimjnnaa
open Go.RowKit
open Go.ChangeMaps (setBlock)
set_option linter.unusedSimpArgs false
set_option linter.unusedVariables false
/-- A part of a row. -/
theorem part_of {pre mid post : List Value} {a b : Nat} (ha : pre.length = a) (hb : a + mid.length = b) : ((pre ++ (mid ++ post)).toArray).extract a b = mid.toArray := by
  subst ha
  subst hb
  apply Array.toList_inj.1
  simp
/-- An outcome, with where its list lies. -/
structure OcR where
  fail : Int64
  at' : Int64
  un : UInt64
  fee : UInt64
  sp : UInt64
  ch : Sl Hold
def ocl (o : OcR) : List Value := [.int .i64 o.fail.toInt, .int .i64 o.at'.toInt, u64v o.un, u64v o.fee, u64v o.sp, .slice o.ch.a o.ch.l.length o.ch.c]
def ocr (o : OcR) : Array Value := (ocl o).toArray
theorem ocr_size (o : OcR) : (ocr o).size = 6 := rfl
theorem ocr_all (o : OcR) : (ocr o).extract 0 6 = ocr o := rfl
theorem ocr_one' (o : OcR) : (ocr o).all (·.oneCell') = true := by simp [ocr, ocl, Value.oneCell']
theorem ocr_one (o : OcR) : (ocr o).all (·.oneCell') 0 6 = true := all_of (ocr_size o) (ocr_one' o)
theorem ocr2 (o : OcR) : (ocr o)[2]? = some (u64v o.un) := rfl
theorem ocr3 (o : OcR) : (ocr o)[3]? = some (u64v o.fee) := rfl
theorem ocr4 (o : OcR) : (ocr o)[4]? = some (u64v o.sp) := rfl
theorem ocr5 (o : OcR) : (ocr o)[5]? = some (.slice o.ch.a o.ch.l.length o.ch.c) := rfl
theorem ocr2' (o : OcR) (h : 2 < (ocr o).size) : (ocr o)[2] = u64v o.un := rfl
theorem ocr3' (o : OcR) (h : 3 < (ocr o).size) : (ocr o)[3] = u64v o.fee := rfl
theorem ocr4' (o : OcR) (h : 4 < (ocr o).size) : (ocr o)[4] = u64v o.sp := rfl
theorem ocr5' (o : OcR) (h : 5 < (ocr o).size) : (ocr o)[5] = .slice o.ch.a o.ch.l.length o.ch.c := rfl
theorem ocr_set5 (o : OcR) (a : Option Addr) (l : List Hold) (n c : Nat) (hn : l.length = n) : (ocr o).setIfInBounds 5 (.slice a n c) = ocr { o with ch := ⟨a, l, c⟩ } := by
  subst hn
  rfl
/-- A transaction that ran. -/
structure TdR where
  r : RdR
  o : OcR
def tdr (x : TdR) : Array Value := mx (rpre x.r) x.r.rc (rpost x.r ++ ocl x.o)
theorem tdr_size (x : TdR) : (tdr x).size = 54 := mx_size _ _ _
theorem tdr_all (x : TdR) : (tdr x).extract 0 54 = tdr x := mx_full rfl
theorem tdr_one (x : TdR) : (tdr x).all (·.oneCell') 0 54 = true := all_of (tdr_size x) (mx_one rfl rfl)
theorem tdr_one' (x : TdR) : (tdr x).all (·.oneCell') = true := mx_one rfl rfl
theorem tdr_r (x : TdR) : (tdr x).extract 0 48 = rdr x.r := by
  have := part_of (pre := []) (mid := rpre x.r ++ (x.r.rc.l.map bc ++ rpost x.r)) (post := ocl x.o) (a := 0) (b := 48) rfl (by simp [rpre, rpost, x.r.rc.h])
  simpa [tdr, rdr, mx] using this
theorem tdr_o (x : TdR) : (tdr x).extract 48 54 = ocr x.o := by
  have := part_of (pre := rpre x.r ++ (x.r.rc.l.map bc ++ rpost x.r)) (mid := ocl x.o) (post := []) (a := 48) (b := 54) (by simp [rpre, rpost, x.r.rc.h]) rfl
  simpa [tdr, rdr, mx, ocr] using this
theorem tdr0 (x : TdR) : (tdr x)[0]? = some (.slice x.r.b.a x.r.b.l.length x.r.b.c) := mx_pre (i := 0) (by simp [rpre])
theorem tdr1 (x : TdR) : (tdr x)[1]? = some (.slice x.r.sg.a x.r.sg.l.length x.r.sg.c) := mx_pre (i := 1) (by simp [rpre])
theorem tdr41 (x : TdR) : (tdr x)[41]? = some (.slice x.r.ro.a x.r.ro.l.length x.r.ro.c) := mx_post 2
theorem tdr50 (x : TdR) : (tdr x)[50]? = some (u64v x.o.un) := mx_post 11
theorem tdr51 (x : TdR) : (tdr x)[51]? = some (u64v x.o.fee) := mx_post 12
theorem tdr52 (x : TdR) : (tdr x)[52]? = some (u64v x.o.sp) := mx_post 13
theorem tdr53 (x : TdR) : (tdr x)[53]? = some (.slice x.o.ch.a x.o.ch.l.length x.o.ch.c) := mx_post 14
theorem tdr0' (x : TdR) (h : 0 < (tdr x).size) : (tdr x)[0] = .slice x.r.b.a x.r.b.l.length x.r.b.c := at_get (tdr0 x) h
theorem tdr1' (x : TdR) (h : 1 < (tdr x).size) : (tdr x)[1] = .slice x.r.sg.a x.r.sg.l.length x.r.sg.c := at_get (tdr1 x) h
theorem tdr41' (x : TdR) (h : 41 < (tdr x).size) : (tdr x)[41] = .slice x.r.ro.a x.r.ro.l.length x.r.ro.c := at_get (tdr41 x) h
theorem tdr50' (x : TdR) (h : 50 < (tdr x).size) : (tdr x)[50] = u64v x.o.un := at_get (tdr50 x) h
theorem tdr51' (x : TdR) (h : 51 < (tdr x).size) : (tdr x)[51] = u64v x.o.fee := at_get (tdr51 x) h
theorem tdr52' (x : TdR) (h : 52 < (tdr x).size) : (tdr x)[52] = u64v x.o.sp := at_get (tdr52 x) h
theorem tdr53' (x : TdR) (h : 53 < (tdr x).size) : (tdr x)[53] = .slice x.o.ch.a x.o.ch.l.length x.o.ch.c := at_get (tdr53 x) h
/-- A transaction, as a part of what is told of it. -/
def txr (x : RdR) : Array Value := mx ((rpre x).drop 1) x.rc ((rpost x).take 2)
theorem txr_size (x : RdR) : (txr x).size = 40 := mx_size _ _ _
theorem txr_all (x : RdR) : (txr x).extract 0 40 = txr x := mx_full rfl
theorem txr_one (x : RdR) : (txr x).all (·.oneCell') 0 40 = true := all_of (txr_size x) (mx_one rfl rfl)
theorem txr_one' (x : RdR) : (txr x).all (·.oneCell') = true := mx_one rfl rfl
theorem rdr_tx (x : RdR) : (rdr x).extract 1 41 = txr x := by
  have := part_of (pre := (rpre x).take 1) (mid := (rpre x).drop 1 ++ (x.rc.l.map bc ++ (rpost x).take 2)) (post := (rpost x).drop 2) (a := 1) (b := 41) rfl (by simp [rpre, rpost, x.rc.h])
  simpa [rdr, txr, mx, rpre, rpost] using this
theorem tdr_tx (x : TdR) : (tdr x).extract 1 41 = txr x.r := by
  have := part_of (pre := (rpre x.r).take 1) (mid := (rpre x.r).drop 1 ++ (x.r.rc.l.map bc ++ (rpost x.r).take 2)) (post := (rpost x.r).drop 2 ++ ocl x.o) (a := 1) (b := 41) rfl (by simp [rpre, rpost, x.r.rc.h])
  simpa [tdr, txr, mx, rpre, rpost] using this
theorem rdr_rec (x : RdR) : (rdr x).extract 7 39 = kc x.rc := by
  have := part_of (pre := rpre x) (mid := x.rc.l.map bc) (post := rpost x) (a := 7) (b := 39) rfl (by simp [x.rc.h])
  simpa [rdr, kc, mx] using this
theorem tdr_rec (x : TdR) : (tdr x).extract 7 39 = kc x.r.rc := by
  have := part_of (pre := rpre x.r) (mid := x.r.rc.l.map bc) (post := rpost x.r ++ ocl x.o) (a := 7) (b := 39) rfl (by simp [x.r.rc.h])
  simpa [tdr, kc, mx] using this
theorem txr0 (x : RdR) : (txr x)[0]? = some (.slice x.sg.a x.sg.l.length x.sg.c) := mx_pre (i := 0) (by simp [rpre])
theorem txr38 (x : RdR) : (txr x)[38]? = some (.slice x.ins.a x.ins.l.length x.ins.c) := mx_post 0
theorem txr39 (x : RdR) : (txr x)[39]? = some (.slice x.lks.a x.lks.l.length x.lks.c) := mx_post 1
theorem txr0' (x : RdR) (h : 0 < (txr x).size) : (txr x)[0] = .slice x.sg.a x.sg.l.length x.sg.c := at_get (txr0 x) h
theorem txr38' (x : RdR) (h : 38 < (txr x).size) : (txr x)[38] = .slice x.ins.a x.ins.l.length x.ins.c := at_get (txr38 x) h
theorem txr39' (x : RdR) (h : 39 < (txr x).size) : (txr x)[39] = .slice x.lks.a x.lks.l.length x.lks.c := at_get (txr39 x) h
def oc0 : OcR := ⟨0, 0, 0, 0, 0, ⟨none, [], 0⟩⟩
def zOut : Array Value := ocr oc0
theorem zOut_size : zOut.size = 6 := rfl
def td0 : TdR := ⟨rd0, oc0⟩
def zTried : Array Value := tdr td0
theorem zTried_size : zTried.size = 54 := tdr_size _
def zTx : Array Value := txr rd0
theorem zTx_size : zTx.size = 40 := txr_size _
theorem ldOut (w : World) (b o : Nat) : (Instr.loadAt 64 (.pointer (some ⟨b, o, none⟩))).run Try.prog w =
      match w.heap[b]? with
      | some (.cells cs _ _) => if o + 6 ≤ cs.size then .ok (.agg (cs.extract o (o + 6))) w else farL Try.prog w 64 b o
      | _ => farL Try.prog w 64 b o := load_rule (d := _) Try.underlying64 rfl (by kernel_rfl) w b o
theorem stOut (w : World) (b o : Nat) (xs : Array Value) : (Instr.storeAt 64 (.pointer (some ⟨b, o, none⟩)) (.agg xs)).run Try.prog w =
      match w.heap[b]? with
      | some (.cells cs U (0, 0)) =>
        if o + 6 ≤ cs.size ∧ xs.size = 6 ∧ xs.all (·.oneCell') = true then .ok () (setBlock w b (.cells (if o = 0 ∧ 6 = cs.size then xs else wr cs o xs.toList) U (0, 0))) else farS Try.prog w 64 b o (.agg xs)
      | _ => farS Try.prog w 64 b o (.agg xs) := store_rule (by kernel_rfl) w b o xs
theorem wlOut (dst : Option Tmp) (x : Operand) (ty : TypeId) (pos : String) (after : Array Edge) (g : Option (Nat × Bool)) (a : Act) (w : World) (K : Act → World → Prop) (Q : Exit → Act → World → Prop) :
    Oper.wp Try.prog { dst := dst, op := .load 64 x, type := ty, pos := pos, after := after, guard := g } a w K Q =
      (match a.eval x with
      | .pointer (some ⟨b, o, none⟩) =>
        (match w.heap[b]? with
        | some (.cells cs _ _) => if o + 6 ≤ cs.size then K (a.put dst (.agg (cs.extract o (o + 6)))) w else farW Try.prog { dst := dst, op := .load 64 x, type := ty, pos := pos, after := after, guard := g } a w K Q
        | _ => farW Try.prog { dst := dst, op := .load 64 x, type := ty, pos := pos, after := after, guard := g } a w K Q)
      | _ => farW Try.prog { dst := dst, op := .load 64 x, type := ty, pos := pos, after := after, guard := g } a w K Q) := wp_load_rule (d := _) Try.underlying64 rfl (by kernel_rfl) dst x ty pos after g a w K Q
theorem alOut (w : World) : (Instr.alloc 64 true (.tuple #[])).run Try.prog w = .ok (.pointer (some ⟨w.heap.size, 0, none⟩)) (w.alloc (.cells zOut 64)) :=
  run_alloc_row (z := .agg zOut) (fun w => by kernel_rfl) w
theorem ldTd (w : World) (b o : Nat) : (Instr.loadAt 66 (.pointer (some ⟨b, o, none⟩))).run Try.prog w =
      match w.heap[b]? with
      | some (.cells cs _ _) => if o + 54 ≤ cs.size then .ok (.agg (cs.extract o (o + 54))) w else farL Try.prog w 66 b o
      | _ => farL Try.prog w 66 b o := load_rule (d := _) Try.underlying66 rfl (by kernel_rfl) w b o
theorem stTd (w : World) (b o : Nat) (xs : Array Value) : (Instr.storeAt 66 (.pointer (some ⟨b, o, none⟩)) (.agg xs)).run Try.prog w =
      match w.heap[b]? with
      | some (.cells cs U (0, 0)) =>
        if o + 54 ≤ cs.size ∧ xs.size = 54 ∧ xs.all (·.oneCell') = true then .ok () (setBlock w b (.cells (if o = 0 ∧ 54 = cs.size then xs else wr cs o xs.toList) U (0, 0))) else farS Try.prog w 66 b o (.agg xs)
      | _ => farS Try.prog w 66 b o (.agg xs) := store_rule (by kernel_rfl) w b o xs
theorem wlTd (dst : Option Tmp) (x : Operand) (ty : TypeId) (pos : String) (after : Array Edge) (g : Option (Nat × Bool)) (a : Act) (w : World) (K : Act → World → Prop) (Q : Exit → Act → World → Prop) :
    Oper.wp Try.prog { dst := dst, op := .load 66 x, type := ty, pos := pos, after := after, guard := g } a w K Q =
      (match a.eval x with
      | .pointer (some ⟨b, o, none⟩) =>
        (match w.heap[b]? with
        | some (.cells cs _ _) => if o + 54 ≤ cs.size then K (a.put dst (.agg (cs.extract o (o + 54)))) w else farW Try.prog { dst := dst, op := .load 66 x, type := ty, pos := pos, after := after, guard := g } a w K Q
        | _ => farW Try.prog { dst := dst, op := .load 66 x, type := ty, pos := pos, after := after, guard := g } a w K Q)
      | _ => farW Try.prog { dst := dst, op := .load 66 x, type := ty, pos := pos, after := after, guard := g } a w K Q) := wp_load_rule (d := _) Try.underlying66 rfl (by kernel_rfl) dst x ty pos after g a w K Q
theorem alTd (w : World) : (Instr.alloc 66 true (.tuple #[])).run Try.prog w = .ok (.pointer (some ⟨w.heap.size, 0, none⟩)) (w.alloc (.cells zTried 66)) :=
  run_alloc_row (z := .agg zTried) (fun w => by kernel_rfl) w
theorem ldTx (w : World) (b o : Nat) : (Instr.loadAt 56 (.pointer (some ⟨b, o, none⟩))).run Try.prog w =
      match w.heap[b]? with
      | some (.cells cs _ _) => if o + 40 ≤ cs.size then .ok (.agg (cs.extract o (o + 40))) w else farL Try.prog w 56 b o
      | _ => farL Try.prog w 56 b o := load_rule (d := _) Try.underlying56 rfl (by kernel_rfl) w b o
theorem stTx (w : World) (b o : Nat) (xs : Array Value) : (Instr.storeAt 56 (.pointer (some ⟨b, o, none⟩)) (.agg xs)).run Try.prog w =
      match w.heap[b]? with
      | some (.cells cs U (0, 0)) =>
        if o + 40 ≤ cs.size ∧ xs.size = 40 ∧ xs.all (·.oneCell') = true then .ok () (setBlock w b (.cells (if o = 0 ∧ 40 = cs.size then xs else wr cs o xs.toList) U (0, 0))) else farS Try.prog w 56 b o (.agg xs)
      | _ => farS Try.prog w 56 b o (.agg xs) := store_rule (by kernel_rfl) w b o xs
theorem wlTx (dst : Option Tmp) (x : Operand) (ty : TypeId) (pos : String) (after : Array Edge) (g : Option (Nat × Bool)) (a : Act) (w : World) (K : Act → World → Prop) (Q : Exit → Act → World → Prop) :
    Oper.wp Try.prog { dst := dst, op := .load 56 x, type := ty, pos := pos, after := after, guard := g } a w K Q =
      (match a.eval x with
      | .pointer (some ⟨b, o, none⟩) =>
        (match w.heap[b]? with
        | some (.cells cs _ _) => if o + 40 ≤ cs.size then K (a.put dst (.agg (cs.extract o (o + 40)))) w else farW Try.prog { dst := dst, op := .load 56 x, type := ty, pos := pos, after := after, guard := g } a w K Q
        | _ => farW Try.prog { dst := dst, op := .load 56 x, type := ty, pos := pos, after := after, guard := g } a w K Q)
      | _ => farW Try.prog { dst := dst, op := .load 56 x, type := ty, pos := pos, after := after, guard := g } a w K Q) := wp_load_rule (d := _) Try.underlying56 rfl (by kernel_rfl) dst x ty pos after g a w K Q
theorem alTx (w : World) : (Instr.alloc 56 true (.tuple #[])).run Try.prog w = .ok (.pointer (some ⟨w.heap.size, 0, none⟩)) (w.alloc (.cells zTx 56)) :=
  run_alloc_row (z := .agg zTx) (fun w => by kernel_rfl) w
end Go.Proofs.Ytofpnmoeimjnnaa
