/- Walks by the logic of values. -/
import Derived.Test.YtldlmmpniddbcaaKmVmT
import Derived.Test.YtldlmmpniddbcaaKmVmP
import Derived.Test.YtldlmmpniddbcaaKmVa
import Derived.Test.YtldlmmpniddbcaaKmVc
import Derived.Test.YtldlmmpniddbcaaKmVo
import Derived.Test.YtldlmmpniddbcaaKmVf
namespace Go.Proofs.Ytldlmmpniddbcaa
open Go.Vm
set_option linter.unusedVariables false
set_option linter.unusedSimpArgs false
attribute [local irreducible] Go.Vm.beB Go.Vm.fieldB
end Go.Proofs.Ytldlmmpniddbcaa
