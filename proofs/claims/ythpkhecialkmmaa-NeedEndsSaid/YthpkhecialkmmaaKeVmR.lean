/- A logic of values over the model. Part R: a function that defers one call of a closure. -/
import Derived.Test.YthpkhecialkmmaaKeVmP
import Derived.Defers
set_option linter.unusedVariables false
set_option linter.unusedSimpArgs false
namespace Go.Vm
end Go.Vm

