/- Walks by the logic of values. -/
import Derived.Test.YtmlhekadnplpcaaKbVa
import Derived.Test.YtmlhekadnplpcaaKbVmT
import Derived.Test.YtmlhekadnplpcaaKbVmP
import Derived.Test.YtmlhekadnplpcaaKbVmV
import Derived.Test.YtmlhekadnplpcaaKbVa
namespace Go.Proofs.Ytmlhekadnplpcaa
open Go.Vm
set_option linter.unusedVariables false
set_option linter.unusedSimpArgs false
def hU (a b c d : Int) : Int := if ¬ (c - a < 2 ∧ d - b < 2) ∧ c - a ≥ d - b then a + (c - a) / 2 else c
def hV (a b c d : Int) : Int := if ¬ (c - a < 2 ∧ d - b < 2) ∧ ¬ c - a ≥ d - b then b + (d - b) / 2 else d
def hX (a b c d : Int) : Int := if ¬ (c - a < 2 ∧ d - b < 2) ∧ c - a ≥ d - b then a + (c - a) / 2 else a
def hY (a b c d : Int) : Int := if ¬ (c - a < 2 ∧ d - b < 2) ∧ ¬ c - a ≥ d - b then b + (d - b) / 2 else b
def Rt (a b c d : Int) : Prop := 0 ≤ a ∧ 0 ≤ b ∧ a < c ∧ b < d ∧ c ≤ 8 ∧ d ≤ 8
theorem h_cases (a b c d : Int) : ((c - a < 2 ∧ d - b < 2) ∧ hU a b c d = c ∧ hV a b c d = d ∧ hX a b c d = a ∧ hY a b c d = b) ∨ ((¬ (c - a < 2 ∧ d - b < 2) ∧ c - a ≥ d - b) ∧ hU a b c d = a + (c - a) / 2 ∧ hV a b c d = d ∧ hX a b c d = a + (c - a) / 2 ∧ hY a b c d = b) ∨ ((¬ (c - a < 2 ∧ d - b < 2) ∧ ¬ c - a ≥ d - b) ∧ hU a b c d = c ∧ hV a b c d = b + (d - b) / 2 ∧ hX a b c d = a ∧ hY a b c d = b + (d - b) / 2) := by
  unfold hU hV hX hY
  by_cases h1 : c - a < 2 ∧ d - b < 2
  · left; exact ⟨h1, if_neg (fun q => q.1 h1), if_neg (fun q => q.1 h1), if_neg (fun q => q.1 h1), if_neg (fun q => q.1 h1)⟩
  · by_cases h2 : c - a ≥ d - b
    · right; left; exact ⟨⟨h1, h2⟩, if_pos ⟨h1, h2⟩, if_neg (fun q => q.2 h2), if_pos ⟨h1, h2⟩, if_neg (fun q => q.2 h2)⟩
    · right; right; exact ⟨⟨h1, h2⟩, if_neg (fun q => h2 q.2), if_pos ⟨h1, h2⟩, if_neg (fun q => h2 q.2), if_pos ⟨h1, h2⟩⟩
theorem halves_q (a b c d : Int) (h : Rt a b c d) : Does Try.prog 16 [.agg (bxB a b c d)] [] [] (.tup [.agg (bxB a b (hU a b c d) (hV a b c d)), .agg (bxB (hX a b c d) (hY a b c d) c d), .sc (.bool (h3F a b c d))]) := by
  have h0 := halves_c a b c d h
  have e1 : h1F a b c d = bxB a b (hU a b c d) (hV a b c d) := by
    rcases h_cases a b c d with ⟨q, e1, e2, e3, e4⟩ | ⟨q, e1, e2, e3, e4⟩ | ⟨q, e1, e2, e3, e4⟩
    · unfold h1F; rw [e1, e2, if_pos q]
    · unfold h1F; rw [e1, e2, if_neg q.1, if_pos q.2]
    · unfold h1F; rw [e1, e2, if_neg q.1, if_neg q.2]
  have e2 : h2F a b c d = bxB (hX a b c d) (hY a b c d) c d := by
    rcases h_cases a b c d with ⟨q, e1, e2, e3, e4⟩ | ⟨q, e1, e2, e3, e4⟩ | ⟨q, e1, e2, e3, e4⟩
    · unfold h2F; rw [e3, e4, if_pos q]
    · unfold h2F; rw [e3, e4, if_neg q.1, if_pos q.2]
    · unfold h2F; rw [e3, e4, if_neg q.1, if_neg q.2]
  rw [e1, e2] at h0
  exact h0
def lw (w : Int) : Int := if w ≤ 1 then 0 else if w ≤ 2 then 1 else if w ≤ 4 then 2 else 3
theorem lw_half {w : Int} (h : 2 ≤ w ∧ w ≤ 8) : lw (w / 2) + 1 ≤ lw w ∧ lw (w - w / 2) + 1 ≤ lw w := by
  obtain rfl | rfl | rfl | rfl | rfl | rfl | rfl : w = 2 ∨ w = 3 ∨ w = 4 ∨ w = 5 ∨ w = 6 ∨ w = 7 ∨ w = 8 := by omega
  all_goals decide
theorem half_step {a b c d : Int} (h : Rt a b c d) (h2 : ¬ (c - a < 2 ∧ d - b < 2)) : (Rt a b (hU a b c d) (hV a b c d) ∧ lw (hU a b c d - a) + lw (hV a b c d - b) + 1 ≤ lw (c - a) + lw (d - b)) ∧ (Rt (hX a b c d) (hY a b c d) c d ∧ lw (c - hX a b c d) + lw (d - hY a b c d) + 1 ≤ lw (c - a) + lw (d - b)) := by
  unfold Rt at h ⊢
  rcases h_cases a b c d with ⟨q, e1, e2, e3, e4⟩ | ⟨q, e1, e2, e3, e4⟩ | ⟨q, e1, e2, e3, e4⟩
  · exact absurd q h2
  · rw [e1, e2, e3, e4]
    have := lw_half (w := c - a) (by omega)
    rw [show a + (c - a) / 2 - a = (c - a) / 2 by omega, show c - (a + (c - a) / 2) = (c - a) - (c - a) / 2 by omega]
    omega
  · rw [e1, e2, e3, e4]
    have := lw_half (w := d - b) (by omega)
    rw [show b + (d - b) / 2 - b = (d - b) / 2 by omega, show d - (b + (d - b) / 2) = (d - b) - (d - b) / 2 by omega]
    omega
theorem rt_of {a b c d : Int} (h : riF a b c d = true) : Rt a b c d := ri_t h
theorem of_rt {a b c d : Int} (h : Rt a b c d) : riF a b c d = true := decide_eq_true h
theorem ce_two {a b c d : Int} (h : Rt a b c d) (h2 : ceF a b c d > 1) : ¬ (c - a < 2 ∧ d - b < 2) := fun q => by
  unfold Rt at h; unfold ceF at h2
  rw [show c - a = 1 by omega, show d - b = 1 by omega] at h2
  omega
end Go.Proofs.Ytmlhekadnplpcaa
