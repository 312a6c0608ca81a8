import Derived.Test.YthpkhecialkmmaaKkQq
import Derived.Test.YthpkhecialkmmaaKkVmP
import Derived.Defers
set_option linter.unusedVariables false
set_option linter.unusedSimpArgs false
namespace Go.Vm
end Go.Vm
