/- Walks by the logic of values. -/
import Derived.Test.YtldlmmpniddbcaaKdVmT
import Derived.Test.YtldlmmpniddbcaaKdVmP
import Derived.Test.YtldlmmpniddbcaaKdVa
import Derived.Test.YtldlmmpniddbcaaKdVc
import Derived.Test.YtldlmmpniddbcaaKdVo
import Derived.Test.YtldlmmpniddbcaaKdVf
namespace Go.Proofs.Ytldlmmpniddbcaa
open Go.Vm
set_option linter.unusedVariables false
set_option linter.unusedSimpArgs false
attribute [local irreducible] Go.Vm.beB Go.Vm.fieldB
end Go.Proofs.Ytldlmmpniddbcaa
