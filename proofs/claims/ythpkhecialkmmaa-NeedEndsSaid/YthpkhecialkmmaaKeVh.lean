/- Walks by the logic of values. -/
import Derived.Test.YthpkhecialkmmaaKeVmT
import Derived.Test.YthpkhecialkmmaaKeVmP
import Derived.Test.YthpkhecialkmmaaKeVmV
import Derived.Test.YthpkhecialkmmaaKeVmO
import Derived.Test.YthpkhecialkmmaaKeVa
import Derived.Test.YthpkhecialkmmaaKeVb
import Derived.Test.YthpkhecialkmmaaKeVc
import Derived.Test.YthpkhecialkmmaaKeVd
import Derived.Test.YthpkhecialkmmaaKeVe
import Derived.Test.YthpkhecialkmmaaKeVf
import Derived.Test.YthpkhecialkmmaaKeVg
namespace Go.Proofs.Ythpkhecialkmmaa
open Go.Vm
set_option linter.unusedVariables false
set_option linter.unusedSimpArgs false
def pkW (i j : Nat) (w : Wt) : List V := match Nat.beq j (i + 1) with
  | true => wC w
  | false => [.sc (.int .i64 0), .sc (.int .u64 0), .sc (.int .i64 0)]
def pkB (i j : Nat) : Bool := Nat.beq j (i + 1)
theorem pkW_lo {i j : Nat} {w : Wt} (h : j < i + 1) : pkW i j w = [.sc (.int .i64 0), .sc (.int .u64 0), .sc (.int .i64 0)] := by
  unfold pkW
  have : Nat.beq j (i + 1) = false := by
    cases hb : Nat.beq j (i + 1) with
    | false => rfl
    | true => have := Nat.eq_of_beq_eq_true hb; omega
  rw [this]
theorem pkB_lo {i j : Nat} (h : j < i + 1) : pkB i j = false := by
  unfold pkB
  cases hb : Nat.beq j (i + 1) with
  | false => rfl
  | true => have := Nat.eq_of_beq_eq_true hb; omega
theorem pkW_hi {i j : Nat} {w : Wt} (h : j = i + 1) : pkW i j w = wC w := by subst h; unfold pkW; rw [Nat.beq_refl]
theorem pkW_bd {n i j : Nat} {w : Wt} : bdL n (pkW i j w) := by
  unfold pkW; split
  · exact ⟨trivial, trivial, trivial, trivial⟩
  · exact ⟨trivial, trivial, trivial, trivial⟩
theorem pkB_hi {i j : Nat} (h : j = i + 1) : pkB i j = true := by subst h; unfold pkB; rw [Nat.beq_refl]
/-! What holds of what is wanted. -/
theorem al_ok {o : Op1} {r : Rc1} {th : Bool} {w : Wt} (ho : OkO o) (hr : OkR r) (hk : 0 ≤ o.key) (h : w ∈ allL o r th) : (0 ≤ w.k ∧ w.k ≤ 2) ∧ 0 ≤ w.n ∧ M6 w.m := by
  have t1 := ti_bd ho.1 ho.2.1; have t2 := ti_bd hr.1 hr.2
  by_cases h1 : o.k = 1
  · rw [al1 h1] at h; simp only [List.mem_cons, List.not_mem_nil, or_false] at h; unfold M6; rcases h with rfl | rfl | rfl <;> (simp only; omega)
  · by_cases h2 : o.k = 2
    · rw [al2 h2] at h; simp only [List.mem_cons, List.not_mem_nil, or_false] at h; unfold M6; rcases h with rfl | rfl <;> (simp only; omega)
    · by_cases h3 : o.k = 3
      · cases th with
        | true => rw [al3t h3 rfl] at h; simp only [List.mem_cons, List.not_mem_nil, or_false] at h; unfold M6; rcases h with rfl | rfl | rfl <;> (simp only; omega)
        | false => rw [al3f h3 rfl] at h; simp only [List.mem_cons, List.not_mem_nil, or_false] at h; unfold M6; rcases h with rfl | rfl <;> (simp only; omega)
      · by_cases h4 : o.k = 4 ∨ o.k = 5
        · rw [al4 h4, List.mem_cons, List.mem_map] at h
          unfold M6
          rcases h with rfl | ⟨t, ht, rfl⟩
          · simp only; omega
          · have := (mem_tou ho.2.2.1 ho.2.2.2.1 ho.2.2.2.2.1 ho.2.2.2.2.2).1 ht
            simp only; omega
        · rw [al5 h1 h2 h3 (by omega) (by omega)] at h; cases h

end Go.Proofs.Ythpkhecialkmmaa

