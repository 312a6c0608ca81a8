/- Walks by the logic of values. -/
import Derived.Test.YtldlmmpniddbcaaKdWa
import Derived.Test.YtldlmmpniddbcaaKdWb
import Derived.Test.YtldlmmpniddbcaaKdWc
import Derived.Test.YtldlmmpniddbcaaKdVa
import Derived.Test.YtldlmmpniddbcaaKdVb
import Derived.Test.YtldlmmpniddbcaaKdVmP
namespace Go.Proofs.Ytldlmmpniddbcaa
open Go.Vm
set_option linter.unusedVariables false
set_option linter.unusedSimpArgs false
/-! texts -/
/-! records -/
attribute [local irreducible] Go.Vm.beB Go.Vm.fieldB
end Go.Proofs.Ytldlmmpniddbcaa
