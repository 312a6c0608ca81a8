/- A logic of values over the model. Part U: the call of yield; the loop over an iterator. -/
import Derived.Test.YtggeejghchnpaaaKrVmS
set_option linter.unusedVariables false
set_option linter.unusedSimpArgs false
namespace Go.Vm
section
variable {P : Program} {B : Bas} {N n : Nat} {l : List (Nat × V)} {bx : Nat → Box} {Q : Exit → S → Prop} {g : Operand} {ps : Array Tmp} {assign body : Code} {f : FuncId} {caps : List V} {xs : List (List V)} {E : Nat → Bool} {e0 : Nat → Box} {eF : Nat → Bool → Nat → Box} {fnn : Func} {Dc : Nat → Bool} {σ : Nat → Nat → Box} {m : Nat} {brk : Bool} {ex : Exit} {gv : V} {kl : Nat}
end
end Go.Vm
