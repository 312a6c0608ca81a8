/- A logic of values over the model. Part N: texts, Byts, zeros appended. -/
import Derived.Test.YthpkhecialkmmaaKeVmM
import Derived.WideShapes
set_option linter.unusedVariables false
set_option linter.unusedSimpArgs false
namespace Go.Vm
/-! ### Bytes -/
def bV (x : Int) : V := .sc (.int .u8 x)
def bytesV (xs : List Int) : List (List V) := xs.map fun x => [bV x]
section
variable {P : Program} {o : Oper} {t : Nat → V} {pre up : List (Nat × Box)} {val : V} {l : List (Nat × V)}
/-! ### A text of Byts; Byts of a text -/
end
/-! ### Zeros appended -/
section
variable {P : Program} {o : Oper} {t : Nat → V} {pre up : List (Nat × Box)} {val : V} {l : List (Nat × V)}
/-! ### Texts put together, compared -/
section
variable {B : Bas} {N n : Nat} {Q : Exit → S → Prop} {ops : Array Oper} {L : List Oper} {bx : Nat → Box} {acc : List Ac} {ty ty2 : TypeId} {x y : Operand} {d : Nat} {a b : ByteArray}
end
end
end Go.Vm

