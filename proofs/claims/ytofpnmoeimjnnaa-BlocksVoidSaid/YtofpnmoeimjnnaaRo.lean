/- Keys and roles: their rows. -/
import Derived.Test.YtofpnmoeimjnnaaGen2
import Derived.Test.YtofpnmoeimjnnaaTg
import Derived.Test.YtofpnmoeimjnnaaProg
import Derived.BigQuiet
namespace Go.Proofs.Ytofpnmoeimjnnaa
open Go.RowKit
open Go.ChangeMaps (setBlock)
set_option linter.unusedSimpArgs false
set_option linter.unusedVariables false
theorem laid : laidOutB Try.prog = true := by kernel_rfl
theorem keyIs : IsKeyT Try.prog 68 5 where
  laid := laid
  row := of_decide_eq_true (by kernel_rfl)
  at2 := by kernel_rfl
  u := Try.underlying68
  e := Try.underlying5
  cK := by kernel_rfl
  cE := by kernel_rfl
  kt := by kernel_rfl
theorem keyT : KeyT Try.prog 68 kv := keyIs.keyT
theorem eqKey1 (a b : Key) (w : World) : (Op.equalIn 10000 68 (.agg (kc a)) (.agg (kc b))).run Try.prog w = .ok (decide (a = b)) w := keyIs.eqIn 9998 a b w
def zKey : Array Value := Array.replicate 32 (.int .u8 0)
theorem zKey_size : zKey.size = 32 := by simp [zKey]
def zRole : Array Value := (Array.replicate 32 (.int .u8 0)) ++ #[.bool false, .bool false]
theorem zRole_size : zRole.size = 34 := by simp [zRole]
theorem ldKey (w : World) (b o : Nat) : (Instr.loadAt 68 (.pointer (some ⟨b, o, none⟩))).run Try.prog w =
      match w.heap[b]? with
      | some (.cells cs _ _) => if o + 32 ≤ cs.size then .ok (.agg (cs.extract o (o + 32))) w else farL Try.prog w 68 b o
      | _ => farL Try.prog w 68 b o := load_rule (d := _) Try.underlying68 rfl (by kernel_rfl) w b o
theorem stKey (w : World) (b o : Nat) (xs : Array Value) : (Instr.storeAt 68 (.pointer (some ⟨b, o, none⟩)) (.agg xs)).run Try.prog w =
      match w.heap[b]? with
      | some (.cells cs U (0, 0)) =>
        if o + 32 ≤ cs.size ∧ xs.size = 32 ∧ xs.all (·.oneCell') = true then .ok () (setBlock w b (.cells (if o = 0 ∧ 32 = cs.size then xs else wr cs o xs.toList) U (0, 0))) else farS Try.prog w 68 b o (.agg xs)
      | _ => farS Try.prog w 68 b o (.agg xs) := store_rule (by kernel_rfl) w b o xs
theorem wlKey (dst : Option Tmp) (x : Operand) (ty : TypeId) (pos : String) (after : Array Edge) (g : Option (Nat × Bool)) (a : Act) (w : World) (K : Act → World → Prop) (Q : Exit → Act → World → Prop) :
    Oper.wp Try.prog { dst := dst, op := .load 68 x, type := ty, pos := pos, after := after, guard := g } a w K Q =
      (match a.eval x with
      | .pointer (some ⟨b, o, none⟩) =>
        (match w.heap[b]? with
        | some (.cells cs _ _) => if o + 32 ≤ cs.size then K (a.put dst (.agg (cs.extract o (o + 32)))) w else farW Try.prog { dst := dst, op := .load 68 x, type := ty, pos := pos, after := after, guard := g } a w K Q
        | _ => farW Try.prog { dst := dst, op := .load 68 x, type := ty, pos := pos, after := after, guard := g } a w K Q)
      | _ => farW Try.prog { dst := dst, op := .load 68 x, type := ty, pos := pos, after := after, guard := g } a w K Q) := wp_load_rule (d := _) Try.underlying68 rfl (by kernel_rfl) dst x ty pos after g a w K Q
theorem alKey (w : World) : (Instr.alloc 68 true (.tuple #[])).run Try.prog w = .ok (.pointer (some ⟨w.heap.size, 0, none⟩)) (w.alloc (.cells zKey 68)) :=
  run_alloc_row (z := .agg zKey) (fun w => by kernel_rfl) w
theorem ldRole (w : World) (b o : Nat) : (Instr.loadAt 121 (.pointer (some ⟨b, o, none⟩))).run Try.prog w =
      match w.heap[b]? with
      | some (.cells cs _ _) => if o + 34 ≤ cs.size then .ok (.agg (cs.extract o (o + 34))) w else farL Try.prog w 121 b o
      | _ => farL Try.prog w 121 b o := load_rule (d := _) Try.underlying121 rfl (by kernel_rfl) w b o
theorem stRole (w : World) (b o : Nat) (xs : Array Value) : (Instr.storeAt 121 (.pointer (some ⟨b, o, none⟩)) (.agg xs)).run Try.prog w =
      match w.heap[b]? with
      | some (.cells cs U (0, 0)) =>
        if o + 34 ≤ cs.size ∧ xs.size = 34 ∧ xs.all (·.oneCell') = true then .ok () (setBlock w b (.cells (if o = 0 ∧ 34 = cs.size then xs else wr cs o xs.toList) U (0, 0))) else farS Try.prog w 121 b o (.agg xs)
      | _ => farS Try.prog w 121 b o (.agg xs) := store_rule (by kernel_rfl) w b o xs
theorem wlRole (dst : Option Tmp) (x : Operand) (ty : TypeId) (pos : String) (after : Array Edge) (g : Option (Nat × Bool)) (a : Act) (w : World) (K : Act → World → Prop) (Q : Exit → Act → World → Prop) :
    Oper.wp Try.prog { dst := dst, op := .load 121 x, type := ty, pos := pos, after := after, guard := g } a w K Q =
      (match a.eval x with
      | .pointer (some ⟨b, o, none⟩) =>
        (match w.heap[b]? with
        | some (.cells cs _ _) => if o + 34 ≤ cs.size then K (a.put dst (.agg (cs.extract o (o + 34)))) w else farW Try.prog { dst := dst, op := .load 121 x, type := ty, pos := pos, after := after, guard := g } a w K Q
        | _ => farW Try.prog { dst := dst, op := .load 121 x, type := ty, pos := pos, after := after, guard := g } a w K Q)
      | _ => farW Try.prog { dst := dst, op := .load 121 x, type := ty, pos := pos, after := after, guard := g } a w K Q) := wp_load_rule (d := _) Try.underlying121 rfl (by kernel_rfl) dst x ty pos after g a w K Q
theorem alRole (w : World) : (Instr.alloc 121 true (.tuple #[])).run Try.prog w = .ok (.pointer (some ⟨w.heap.size, 0, none⟩)) (w.alloc (.cells zRole 121)) :=
  run_alloc_row (z := .agg zRole) (fun w => by kernel_rfl) w
structure Role where
  k : Key
  s : Bool
  w : Bool
def rcr (r : Role) : Array Value := rc r.k r.s r.w
/-- The roles l lie at a. -/
def RolesAt (w : World) (a : Option Addr) (l : List Role) : Prop := SlAt rcr 34 w a l
end Go.Proofs.Ytofpnmoeimjnnaa
