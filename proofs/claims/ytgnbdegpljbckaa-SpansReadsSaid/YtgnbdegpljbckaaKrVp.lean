/- Walks by the logic of values. -/
import Derived.Test.YtgnbdegpljbckaaKrVmT
import Derived.Test.YtgnbdegpljbckaaKrVmP
import Derived.Test.YtgnbdegpljbckaaKrVmV
import Derived.Test.YtgnbdegpljbckaaKrVa
namespace Go.Proofs.Ytgnbdegpljbckaa
open Go.Vm
set_option linter.unusedVariables false
set_option linter.unusedSimpArgs false
theorem join_t {a b : List Sp} {i : Nat} (h : (i : Int) < b.length) : joinL a (b.take (i + 1)) = addL (joinL a (b.take i)) (at' b (i : Int)) := by
  unfold joinL; rw [List.take_add_one, oat h, List.foldl_append]; rfl
theorem less_t {a b : List Sp} {i : Nat} (h : (i : Int) < b.length) : lessL a (b.take (i + 1)) = cutL (lessL a (b.take i)) (at' b (i : Int)) := by
  unfold lessL; rw [List.take_add_one, oat h, List.foldl_append]; rfl
theorem take_s {a b : List Sp} {i : Nat} (h : a.take i = b.take i) (ha : (i : Int) < a.length) (hb : (i : Int) < b.length) (e : at' a (i : Int) = at' b (i : Int)) : a.take (i + 1) = b.take (i + 1) := by
  rw [List.take_add_one, List.take_add_one, h, oat ha, oat hb, e]
theorem shr1 {i j : Nat} : ((i : Int) + (j : Int)).fdiv (2 ^ (min (1 : Int).toNat IntKind.u64.bits)) = (((i + j) / 2 : Nat) : Int) := by
  have : (2 : Int) ^ (min (1 : Int).toNat IntKind.u64.bits) = 2 := by decide
  rw [this, Int.fdiv_eq_ediv_of_nonneg _ (by omega)]; omega
def cmpF (y : Sp) (n : Int) : Int := if y.hi < n then -1 else 1
theorem cmp_nz (y : Sp) (n : Int) : cmpF y n ≠ 0 := by unfold cmpF; split <;> omega
theorem bs_lt {M : Int} {l : List Sp} (hs : SetM M l) {i : Nat} {n : Int} (h : (i : Int) < l.length) (hc : cmpF (at' l (i : Int)) n < 0) : i + 1 ≤ fdL l n := by
  unfold cmpF at hc
  split at hc
  · rcases Nat.lt_or_ge i (fdL l n) with q | q
    · exact q
    · have := can_ge hs.c q (oat h); omega
  · omega
theorem bs_ge {M : Int} {l : List Sp} (hs : SetM M l) {i : Nat} {n : Int} (h : (i : Int) < l.length) (hc : ¬ cmpF (at' l (i : Int)) n < 0) : fdL l n ≤ i := by
  unfold cmpF at hc
  split at hc
  · omega
  · rcases Nat.lt_or_ge i (fdL l n) with q | q
    · have := fdL_lt q (oat h); omega
    · exact q
end Go.Proofs.Ytgnbdegpljbckaa
