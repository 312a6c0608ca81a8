/- Walks by the logic of values. -/
import Derived.Test.YthpkhecialkmmaaKeVmT
import Derived.Test.YthpkhecialkmmaaKeVmP
import Derived.Test.YthpkhecialkmmaaKeVmV
import Derived.Test.YthpkhecialkmmaaKeVmO
import Derived.Test.YthpkhecialkmmaaKeVa
import Derived.Test.YthpkhecialkmmaaKeVb
import Derived.Test.YthpkhecialkmmaaKeVc
import Derived.Test.YthpkhecialkmmaaKeVd
import Derived.Test.YthpkhecialkmmaaKeVe
import Derived.Test.YthpkhecialkmmaaKeVf
import Derived.Test.YthpkhecialkmmaaKeVg
import Derived.Test.YthpkhecialkmmaaKeVh
import Derived.Test.YthpkhecialkmmaaKeVi
import Derived.Test.YthpkhecialkmmaaKeVj
import Derived.Test.YthpkhecialkmmaaKeVk
namespace Go.Proofs.Ythpkhecialkmmaa
open Go.Vm
set_option linter.unusedVariables false
set_option linter.unusedSimpArgs false
theorem cnt_le {o : Op1} (ho : OkO o) : cntF o ≤ 65 := by
  have := tou_len ho.2.2.1 ho.2.2.2.1 ho.2.2.2.2.1 ho.2.2.2.2.2
  unfold cntF; split <;> (try split) <;> (try split) <;> omega
instance : Inhabited Wt := ⟨⟨0, 0, 0⟩⟩
theorem oatW {l : List Wt} {i : Nat} (h : (i : Int) < l.length) : l[i]? = some (at' l (i : Int)) := by
  unfold at'; rw [Int.toNat_natCast, List.getD_eq_getElem?_getD, List.getElem?_eq_getElem (by omega)]; rfl
end Go.Proofs.Ythpkhecialkmmaa

