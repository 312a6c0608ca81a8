/- Walks by the logic of values. -/
import Derived.Test.YtgfmjipdegkemaaKrVj
import Derived.Test.YtgfmjipdegkemaaKrVmQ
import Derived.Test.YtgfmjipdegkemaaKrWe
import Derived.Test.YtgfmjipdegkemaaKrVa
import Derived.Test.YtgfmjipdegkemaaKrVb
import Derived.Test.YtgfmjipdegkemaaKrVc
import Derived.Test.YtgfmjipdegkemaaKrVe
import Derived.Test.YtgfmjipdegkemaaKrWa
import Derived.Test.YtgfmjipdegkemaaKrWb
import Derived.Test.YtgfmjipdegkemaaKrWc
import Derived.Test.YtgfmjipdegkemaaKrWd
import Derived.Test.YtgfmjipdegkemaaKrWe
import Derived.Test.YtgfmjipdegkemaaKrVmT
import Derived.Test.YtgfmjipdegkemaaKrVmP
namespace Go.Proofs.Ytgfmjipdegkemaa
open Go.Vm
set_option linter.unusedVariables false
set_option linter.unusedSimpArgs false
open Crc
attribute [local irreducible] Go.Vm.beB Go.Vm.fieldB
end Go.Proofs.Ytgfmjipdegkemaa
