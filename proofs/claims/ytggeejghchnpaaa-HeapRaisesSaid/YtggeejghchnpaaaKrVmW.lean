/- A logic of values over the model. Part W: clear. -/
import Derived.Test.YtggeejghchnpaaaKrVmV
set_option linter.unusedVariables false
set_option linter.unusedSimpArgs false
namespace Go.Vm
section
variable {P : Program} {o : Oper} {t : Nat → V}
end
end Go.Vm
