/- Walks by the logic of values. -/
import Derived.Test.YtldlmmpniddbcaaKmWa
import Derived.Test.YtldlmmpniddbcaaKmWb
import Derived.Test.YtldlmmpniddbcaaKmWc
import Derived.Test.YtldlmmpniddbcaaKmVa
import Derived.Test.YtldlmmpniddbcaaKmVb
import Derived.Test.YtldlmmpniddbcaaKmVmP
namespace Go.Proofs.Ytldlmmpniddbcaa
open Go.Vm
set_option linter.unusedVariables false
set_option linter.unusedSimpArgs false
/-! texts -/
/-! records -/
attribute [local irreducible] Go.Vm.beB Go.Vm.fieldB
end Go.Proofs.Ytldlmmpniddbcaa
