import Derived.Test.YthpkhecialkmmaaKkQq
import Derived.Test.YthpkhecialkmmaaKkVmT
import Derived.Test.YthpkhecialkmmaaKkVmP
import Derived.Test.YthpkhecialkmmaaKkVmV
import Derived.Test.YthpkhecialkmmaaKkVmO
import Derived.Test.YthpkhecialkmmaaKkVa
import Derived.Test.YthpkhecialkmmaaKkVb
import Derived.Test.YthpkhecialkmmaaKkVc
import Derived.Test.YthpkhecialkmmaaKkVd
import Derived.Test.YthpkhecialkmmaaKkVf
namespace Go.Proofs.Ythpkhecialkmmaa
open Go.Vm
set_option linter.unusedVariables false
set_option linter.unusedSimpArgs false
end Go.Proofs.Ythpkhecialkmmaa
