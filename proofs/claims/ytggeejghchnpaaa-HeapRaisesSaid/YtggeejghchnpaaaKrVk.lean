/- Walks by the logic of values. -/
import Derived.Test.YtggeejghchnpaaaKrVmT
import Derived.Test.YtggeejghchnpaaaKrVmP
import Derived.Test.YtggeejghchnpaaaKrVmV
import Derived.Test.YtggeejghchnpaaaKrVmY
import Derived.Test.YtggeejghchnpaaaKrVa
import Derived.Test.YtggeejghchnpaaaKrVb
import Derived.Test.YtggeejghchnpaaaKrVc
import Derived.Test.YtggeejghchnpaaaKrVd
import Derived.Test.YtggeejghchnpaaaKrVe
import Derived.Test.YtggeejghchnpaaaKrVf
import Derived.Test.YtggeejghchnpaaaKrVg
import Derived.Test.YtggeejghchnpaaaKrVh
import Derived.Test.YtggeejghchnpaaaKrVi
import Derived.Test.YtggeejghchnpaaaKrVj
namespace Go.Proofs.Ytggeejghchnpaaa
open Go.Vm
set_option linter.unusedVariables false
set_option linter.unusedSimpArgs false
def allR (n0 c : Nat) : List (List V) := (List.range c).map fun a => [V.ref (n0 + a) 0]
theorem allR_len (n0 c : Nat) : (allR n0 c).length = c := by unfold allR; rw [List.length_map, List.length_range]
theorem allR_s (n0 c : Nat) : allR n0 c ++ [[V.ref (n0 + c) 0]] = allR n0 (c + 1) := by unfold allR; rw [List.range_succ, List.map_append]; rfl
theorem allR_at {n0 c q : Nat} (h : q < c) : (allR n0 c)[((q : Nat) : Int).toNat]? = some [V.ref (n0 + q) 0] := by
  rw [Int.toNat_natCast]; unfold allR; rw [List.getElem?_map, List.getElem?_range h]; rfl
theorem allR_bd {n n0 c : Nat} (h : c = 0 ∨ n0 + c ≤ n) : bdR n (allR n0 c) := bdR_all fun v hv => by
  obtain ⟨j, hj, rfl⟩ := List.mem_map.1 hv
  have := List.mem_range.1 hj
  exact ⟨show n0 + j < n by omega, trivial⟩
end Go.Proofs.Ytggeejghchnpaaa
