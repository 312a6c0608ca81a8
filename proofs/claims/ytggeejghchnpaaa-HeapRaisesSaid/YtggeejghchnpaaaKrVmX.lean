/- A logic of values over the model. Part X: a constant text as bytes (a literal's row, and its conversion to its own type, in one). -/
import Derived.Test.YtggeejghchnpaaaKrVmW
import Derived.Lib.SlBytesConst
set_option linter.unusedVariables false
set_option linter.unusedSimpArgs false
namespace Go.Vm
section
variable {P : Program} {B : Bas} {N : Nat} {Q : Exit → S → Prop} {l : List (Nat × V)} {n : Nat} {bx : Nat → Box} {ops : Array Oper} {L : List Oper} {o o2 : Oper}
end
end Go.Vm
