/- Walks by the logic of values. -/
import Derived.Test.YthpkhecialkmmaaKeVmT
import Derived.Test.YthpkhecialkmmaaKeVmP
import Derived.Test.YthpkhecialkmmaaKeVmV
import Derived.Test.YthpkhecialkmmaaKeVmO
import Derived.Test.YthpkhecialkmmaaKeVa
import Derived.Test.YthpkhecialkmmaaKeVb
import Derived.Test.YthpkhecialkmmaaKeVc
import Derived.Test.YthpkhecialkmmaaKeVd
import Derived.Test.YthpkhecialkmmaaKeVf
namespace Go.Proofs.Ythpkhecialkmmaa
open Go.Vm
set_option linter.unusedVariables false
set_option linter.unusedSimpArgs false
end Go.Proofs.Ythpkhecialkmmaa

