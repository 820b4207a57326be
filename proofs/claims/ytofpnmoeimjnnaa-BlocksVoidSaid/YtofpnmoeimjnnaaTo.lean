/- The pass with effects: a store into an owned block. -/
import Derived.Test.YtofpnmoeimjnnaaTg
namespace Go.Proofs.Ytofpnmoeimjnnaa
set_option linter.unusedVariables false
section
variable {P : Program} {ops : Array Oper} {Q : Exit → Act → World → Prop} {T0 : Nat → Prop} {w0 : World} {κ : Nat → Nat} {υ : Nat → List Tmp}
theorem TG.storeO {i : Nat} {r : List Nat} {a : Act} {B : Bx} {K : Land} {o : Oper} {T : TypeId} {x y : Operand} {X Y : Value} (K' : Land) (hcl : Good K') (ho : ops[i]? = some o) (hk : κ i = 6) (hw : Region.wanted o (yielded ops a.tmps) = true)
    (hd : o.dst = none) (hop : o.op = .store T x y) (hx : a.eval x = X) (hy : a.eval y = Y)
    (hr : ∀ T' w, K T' w → ∃ w', (Instr.storeAt T X Y).run P w = .ok () w' ∧ Mod T' w w' ∧ K' T' w')
    (h : Inh T0 w0 B K' → TG P ops Q T0 w0 κ υ r a B K') : TG P ops Q T0 w0 κ υ (i :: r) a B K := by
  refine TG.eff' (fun _ => K') ho hk hw (fun _ => hcl.cl) (fun T2 w k1 k2 k3 k4 => .inr (.inl ?_)) (fun v hI => by rw [hd]; exact h hI)
  obtain ⟨w', h1, h2, h3⟩ := hr T2 w k1
  refine ⟨w', ?_, h2, hcl.gr _ _ _ (fun _ h => .inl h) h3⟩
  subst hx
  subst hy
  simp [execOp, hop, h1]
end
end Go.Proofs.Ytofpnmoeimjnnaa
