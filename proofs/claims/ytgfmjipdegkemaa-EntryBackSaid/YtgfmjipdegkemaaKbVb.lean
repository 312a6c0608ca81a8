/- Walks by the logic of values. -/
import Derived.Test.YtgfmjipdegkemaaKbVa
import Derived.Test.YtgfmjipdegkemaaKbWa
import Derived.Test.YtgfmjipdegkemaaKbWb
import Derived.Test.YtgfmjipdegkemaaKbWc
import Derived.Test.YtgfmjipdegkemaaKbWd
import Derived.Test.YtgfmjipdegkemaaKbWe
import Derived.Test.YtgfmjipdegkemaaKbVmT
import Derived.Test.YtgfmjipdegkemaaKbVmP
namespace Go.Proofs.Ytgfmjipdegkemaa
open Go.Vm
set_option linter.unusedVariables false
set_option linter.unusedSimpArgs false
attribute [local irreducible] Go.Vm.beB Go.Vm.fieldB
theorem bytesV_app (a b : List Int) : bytesV (a ++ b) = bytesV a ++ bytesV b := List.map_append
theorem bytesV_one (x : Int) : bytesV [x] = [[.sc (.int .u8 x)]] := rfl
theorem p_at {p : List Int} {i q : Nat} (h : q = i) (hi : i < p.length) : (p.map bV)[q]? = some (bV (at' p (i : Int))) := by subst h; rw [at_nat _ _ hi, List.getElem?_map, List.getElem?_eq_getElem hi]; rfl
def lnz (p : List Int) : Nat → Nat
  | 0 => 0
  | j + 1 => if at' p (j : Int) ≠ 0 then j + 1 else lnz p j
theorem lnz_le (p : List Int) : ∀ j, lnz p j ≤ j
  | 0 => Nat.le_refl _
  | j + 1 => by have := lnz_le p j; unfold lnz; split <;> omega
end Go.Proofs.Ytgfmjipdegkemaa
