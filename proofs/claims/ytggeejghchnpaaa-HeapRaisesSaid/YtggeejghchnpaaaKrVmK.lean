/- A logic of values over the model. Part K: cuts of arrays, shifts and bits. -/
import Derived.Test.YtggeejghchnpaaaKrVmJ
import Derived.Laws.BitsLemmas
import Derived.Laws.Entries
set_option linter.unusedVariables false
set_option linter.unusedSimpArgs false
namespace Go.Vm
section
variable {P : Program} {o : Oper} {t : Nat → V} {l : List (Nat × V)}
theorem bndHi_nat {x : Operand} {k : IntKind} {i : Int} {m a : Nat} (h : lko l x = some (.sc (.int k i))) (h0 : i = (a : Int)) : bndHi m ((some x).map (ev (mk l))) = some a := by
  rw [bndHi_some h (by omega)]; congr 1; omega
theorem step_quo {ty ty2 : TypeId} {x y : Operand} {k : IntKind} {a b : Int} (ho : o.op = .binOp .quo ty x y ty2) (hx : ev t x = .sc (.int k a)) (hy : ev t y = .sc (.int k b)) (ha : 0 ≤ a) (hb : 0 < b) (h : k.wrap (a / b) = a / b) : StepOK P o t [] [] (.sc (.int k (a / b))) :=
  step_binOp ho hx hy fun w => by
    have e : a.tdiv b = a / b := Int.tdiv_eq_ediv_of_nonneg ha
    simp only [eqGuard, binOp_quo, Op.intDiv, show ¬ b = 0 by omega, if_false, e, h]; rfl
end
end Go.Vm
