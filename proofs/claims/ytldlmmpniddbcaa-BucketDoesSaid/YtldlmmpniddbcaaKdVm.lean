/- Walks by the logic of values. -/
import Derived.Test.YtldlmmpniddbcaaKdVa
import Derived.Test.YtldlmmpniddbcaaKdVc
import Derived.Test.YtldlmmpniddbcaaKdVo
import Derived.Test.YtldlmmpniddbcaaKdVg
import Derived.Test.YtldlmmpniddbcaaKdVk
namespace Go.Proofs.Ytldlmmpniddbcaa
open Go.Vm
set_option linter.unusedVariables false
set_option linter.unusedSimpArgs false
attribute [local irreducible] Go.Vm.beB Go.Vm.fieldB
structure Inv (n : Nat) (m : List Rc) : Prop where
  len : m.length ≤ 5 * n
  ids : (m.map (·.id)).Nodup
  val : ∀ r ∈ m, r.val.size ≤ 15
/-! marks -/
end Go.Proofs.Ytldlmmpniddbcaa
