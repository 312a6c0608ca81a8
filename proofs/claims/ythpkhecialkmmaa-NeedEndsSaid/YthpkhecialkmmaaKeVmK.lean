/- A logic of values over the model. Part K: cuts of arrays, shifts and bits. -/
import Derived.Test.YthpkhecialkmmaaKeVmJ
import Derived.Laws.BitsLemmas
import Derived.Laws.Entries
set_option linter.unusedVariables false
set_option linter.unusedSimpArgs false
namespace Go.Vm
section
variable {P : Program} {o : Oper} {t : Nat → V} {l : List (Nat × V)}
theorem step_shr {ty ty2 : TypeId} {x y : Operand} {k yk : IntKind} {a b r : Int} (ho : o.op = .binOp .shr ty x y ty2) (hx : ev t x = .sc (.int k a)) (hy : ev t y = .sc (.int yk b)) (h0 : 0 ≤ b) (h : a.fdiv (2 ^ (min b.toNat k.bits)) = r) : StepOK P o t [] [] (.sc (.int k r)) :=
  step_binOp ho hx hy fun w => by
    subst h
    simp only [eqGuard, binOp, Op.shift, Int.not_lt.2 h0, if_false]
    rfl
theorem step_bits {op : BinOp} {ty ty2 : TypeId} {x y : Operand} {k : IntKind} {a b r : Int} (ho : o.op = .binOp op ty x y ty2) (hx : ev t x = .sc (.int k a)) (hy : ev t y = .sc (.int k b)) (hop : op = .and ∨ op = .or ∨ op = .xor ∨ op = .andNot) (h : bits op k a b = r) : StepOK P o t [] [] (.sc (.int k r)) :=
  step_binOp ho hx hy fun w => by
    subst h
    rcases hop with rfl | rfl | rfl | rfl
    · simp only [eqGuard, binOp_and, intBits_and]; rfl
    · simp only [eqGuard, binOp_or, intBits_or]; rfl
    · simp only [eqGuard, binOp_xor, intBits_xor]; rfl
    · simp only [eqGuard, binOp_andNot, intBits_andNot]; rfl
theorem step_quo {ty ty2 : TypeId} {x y : Operand} {k : IntKind} {a b : Int} (ho : o.op = .binOp .quo ty x y ty2) (hx : ev t x = .sc (.int k a)) (hy : ev t y = .sc (.int k b)) (ha : 0 ≤ a) (hb : 0 < b) (h : k.wrap (a / b) = a / b) : StepOK P o t [] [] (.sc (.int k (a / b))) :=
  step_binOp ho hx hy fun w => by
    have e : a.tdiv b = a / b := Int.tdiv_eq_ediv_of_nonneg ha
    simp only [eqGuard, binOp_quo, Op.intDiv, show ¬ b = 0 by omega, if_false, e, h]; rfl
end
end Go.Vm

