/- A further step of the pass: a conversion that reads. -/
import Derived.Test.YtofpnmoeimjnnaaGen
namespace Go.Proofs.Ytofpnmoeimjnnaa
set_option linter.unusedVariables false
section
variable {P : Program} {ops : Array Oper} {Q : Exit → Act → World → Prop} {S : World → Prop} {C : FuncId → Array Value → Value → Prop} {w0 : World} {κ : Nat → Nat}
theorem TD.conv {i : Nat} {r : List Nat} {a : Act} {B : Bx} {o : Oper} {s d : TypeId} {x : Operand} {p v : Value} (hS : S w0) (ho : ops[i]? = some o) (hk : κ i = 1) (hw : Region.wanted o (yielded ops a.tmps) = true)
    (hop : o.op = .convert s d x) (hx : a.eval x = p) (hr : ∀ w, S w → (convert s d p).run P w = .ok v w) (h : TD P ops Q S C w0 κ r (a.put o.dst v) B) : TD P ops Q S C w0 κ (i :: r) a B :=
  TD.val1 hS ho hk hw (fun w hs => by subst hx; simp [execOp, hop, hr w hs]) h
end
end Go.Proofs.Ytofpnmoeimjnnaa
