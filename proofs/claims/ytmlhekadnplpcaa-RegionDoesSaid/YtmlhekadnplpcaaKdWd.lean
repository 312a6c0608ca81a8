/- Walks by the logic of values. -/
import Derived.Test.YtmlhekadnplpcaaKdWa
import Derived.Test.YtmlhekadnplpcaaKdWb
namespace Go.Proofs.Ytmlhekadnplpcaa
open Go.Vm
set_option linter.unusedVariables false
set_option linter.unusedSimpArgs false
end Go.Proofs.Ytmlhekadnplpcaa
