/- Walks by the logic of values. -/
import Derived.Test.YtgfmjipdegkemaaKbVj
import Derived.Test.YtgfmjipdegkemaaKbVmQ
import Derived.Test.YtgfmjipdegkemaaKbWe
import Derived.Test.YtgfmjipdegkemaaKbVa
import Derived.Test.YtgfmjipdegkemaaKbVb
import Derived.Test.YtgfmjipdegkemaaKbVc
import Derived.Test.YtgfmjipdegkemaaKbVe
import Derived.Test.YtgfmjipdegkemaaKbWa
import Derived.Test.YtgfmjipdegkemaaKbWb
import Derived.Test.YtgfmjipdegkemaaKbWc
import Derived.Test.YtgfmjipdegkemaaKbWd
import Derived.Test.YtgfmjipdegkemaaKbWe
import Derived.Test.YtgfmjipdegkemaaKbVmT
import Derived.Test.YtgfmjipdegkemaaKbVmP
namespace Go.Proofs.Ytgfmjipdegkemaa
open Go.Vm
set_option linter.unusedVariables false
set_option linter.unusedSimpArgs false
open Crc
attribute [local irreducible] Go.Vm.beB Go.Vm.fieldB
end Go.Proofs.Ytgfmjipdegkemaa
