/- Walks by the logic of values. -/
import Derived.Test.YtgnbdegpljbckaaKlVmT
import Derived.Test.YtgnbdegpljbckaaKlVmP
import Derived.Test.YtgnbdegpljbckaaKlVmV
import Derived.Test.YtgnbdegpljbckaaKlVa
import Derived.Test.YtgnbdegpljbckaaKlVp
import Derived.Test.YtgnbdegpljbckaaKlVj
namespace Go.Proofs.Ytgnbdegpljbckaa
open Go.Vm
set_option linter.unusedVariables false
set_option linter.unusedSimpArgs false
/-! the document's arrays -/
def bC (r : Nat → Bool) : List V := (List.range 256).map fun k => .sc (.bool (r k))
theorem bC_len (r : Nat → Bool) : (bC r).length = 256 := by simp [bC]
theorem bd_bC (n : Nat) (r : Nat → Bool) : bdL n (bC r) := bdL_all fun v hv => by obtain ⟨k, _, rfl⟩ := List.mem_map.1 hv; trivial
theorem bd_bCA (n : Nat) (r : Nat → Bool) : V.bd n (.agg (bC r)) := bd_bC n r
/-! the document's stretches -/
attribute [local irreducible] bC
end Go.Proofs.Ytgnbdegpljbckaa
