/- Walks by the logic of values. -/
import Derived.Test.YtmlhekadnplpcaaKbVa
import Derived.Test.YtmlhekadnplpcaaKbVd
import Derived.Test.YtmlhekadnplpcaaKbVo
import Derived.Test.YtmlhekadnplpcaaKbVmT
import Derived.Test.YtmlhekadnplpcaaKbVmP
import Derived.Test.YtmlhekadnplpcaaKbVmV
import Derived.Test.YtmlhekadnplpcaaKbVa
namespace Go.Proofs.Ytmlhekadnplpcaa
open Go.Vm
set_option linter.unusedVariables false
set_option linter.unusedSimpArgs false
theorem area {W Y w1 w2 h1 h2 : Int} (k1 : 1 ≤ w1) (k2 : 1 ≤ w2) (k3 : 1 ≤ h1) (k4 : 1 ≤ h2) (k5 : w1 + w2 ≤ W) (k6 : h1 ≤ Y) (k7 : h2 ≤ Y) (e : W * Y = w1 * h1 + w2 * h2) : W = w1 + w2 ∧ Y = h1 ∧ Y = h2 := by
  have a1 : (w1 + w2) * Y ≤ W * Y := Int.mul_le_mul_of_nonneg_right k5 (by omega)
  have a2 : w1 * h1 ≤ w1 * Y := Int.mul_le_mul_of_nonneg_left k6 (by omega)
  have a3 : w2 * h2 ≤ w2 * Y := Int.mul_le_mul_of_nonneg_left k7 (by omega)
  rw [Int.add_mul] at a1
  have b2 : w1 * Y = w1 * h1 := by omega
  have b3 : w2 * Y = w2 * h2 := by omega
  have b1 : W * Y = (w1 + w2) * Y := by rw [Int.add_mul]; omega
  exact ⟨Int.eq_of_mul_eq_mul_right (by omega) b1, Int.eq_of_mul_eq_mul_left (by omega) b2, Int.eq_of_mul_eq_mul_left (by omega) b3⟩
/-- Two boxes that make one lie side by side. -/
def Gm (a b c d e f p q : Int) : Prop := (c = e ∧ b = f ∧ d = q) ∨ (p = a ∧ b = f ∧ d = q) ∨ (d = f ∧ a = e ∧ c = p) ∨ (q = b ∧ a = e ∧ c = p)
theorem jo_gm {a b c d e f p q : Int} (h1 : Rt a b c d) (h2 : Rt e f p q) : joF a b c d e f p q = true ↔ Gm a b c d e f p q := by
  have r1 := of_rt h1; have r2 := of_rt h2
  unfold Rt at h1 h2
  have m1 := mn_or a e; have m2 := mn_or b f; have m3 := mx_or c p; have m4 := mx_or d q
  have key : joF a b c d e f p q = true ↔ (c ≤ e ∨ p ≤ a ∨ d ≤ f ∨ q ≤ b) ∧ (mxI c p - mnI a e) * (mxI d q - mnI b f) = (c - a) * (d - b) + (p - e) * (q - f) := by
    unfold joF apF ceF; rw [r1, r2]; simp
  rw [key]
  constructor
  · rintro ⟨h3 | h3 | h3 | h3, h4⟩
    · have := area (by omega) (by omega) (by omega) (by omega) (by omega) (by omega) (by omega) h4
      left; omega
    · have := area (by omega) (by omega) (by omega) (by omega) (by omega) (by omega) (by omega) h4
      right; left; omega
    · rw [Int.mul_comm, Int.mul_comm (c - a), Int.mul_comm (p - e)] at h4
      have := area (by omega) (by omega) (by omega) (by omega) (by omega) (by omega) (by omega) h4
      right; right; left; omega
    · rw [Int.mul_comm, Int.mul_comm (c - a), Int.mul_comm (p - e)] at h4
      have := area (by omega) (by omega) (by omega) (by omega) (by omega) (by omega) (by omega) h4
      right; right; right; omega
  · rintro (⟨g1, g2, g3⟩ | ⟨g1, g2, g3⟩ | ⟨g1, g2, g3⟩ | ⟨g1, g2, g3⟩)
    · refine ⟨by omega, ?_⟩
      rw [show mxI c p - mnI a e = (c - a) + (p - e) by omega, show mxI d q - mnI b f = d - b by omega, show q - f = d - b by omega, Int.add_mul]
    · refine ⟨by omega, ?_⟩
      rw [show mxI c p - mnI a e = (c - a) + (p - e) by omega, show mxI d q - mnI b f = d - b by omega, show q - f = d - b by omega, Int.add_mul]
    · refine ⟨by omega, ?_⟩
      rw [show mxI c p - mnI a e = c - a by omega, show mxI d q - mnI b f = (d - b) + (q - f) by omega, show p - e = c - a by omega, Int.mul_add]
    · refine ⟨by omega, ?_⟩
      rw [show mxI c p - mnI a e = c - a by omega, show mxI d q - mnI b f = (d - b) + (q - f) by omega, show p - e = c - a by omega, Int.mul_add]
def In (a b c d x y : Int) : Prop := a ≤ x ∧ x < c ∧ b ≤ y ∧ y < d
theorem cel_iff {a b c d e f p q r1 r2 r3 r4 : Int} {x y : Nat} : celF a b c d e f p q r1 r2 r3 r4 x y = true ↔ ¬ (In a b c d x y ∧ In e f p q x y) ∧ ((In a b c d x y ∨ In e f p q x y) ↔ In r1 r2 r3 r4 x y) := by
  unfold celF celB haF In
  by_cases k1 : a ≤ x ∧ (x : Int) < c ∧ b ≤ y ∧ (y : Int) < d <;> by_cases k2 : e ≤ x ∧ (x : Int) < p ∧ f ≤ y ∧ (y : Int) < q <;> by_cases k3 : r1 ≤ x ∧ (x : Int) < r3 ∧ r2 ≤ y ∧ (y : Int) < r4 <;> simp [k1, k2, k3]
theorem jn_at {a b c d e f p q r1 r2 r3 r4 : Int} (h : jnF a b c d e f p q r1 r2 r3 r4 = true) (x y : Int) (hx : 0 ≤ x ∧ x < 8) (hy : 0 ≤ y ∧ y < 8) : ¬ (In a b c d x y ∧ In e f p q x y) ∧ ((In a b c d x y ∨ In e f p q x y) ↔ In r1 r2 r3 r4 x y) := by
  obtain ⟨x', rfl⟩ : ∃ x' : Nat, x = x' := ⟨x.toNat, by omega⟩
  obtain ⟨y', rfl⟩ : ∃ y' : Nat, y = y' := ⟨y.toNat, by omega⟩
  have h1 := List.all_eq_true.1 h x' (List.mem_range.2 (by omega))
  exact cel_iff.1 (List.all_eq_true.1 h1 y' (List.mem_range.2 (by omega)))
set_option maxHeartbeats 4000000 in
theorem jn_gm {a b c d e f p q : Int} (h1 : Rt a b c d) (h2 : Rt e f p q) : jnF a b c d e f p q (mnI a e) (mnI b f) (mxI c p) (mxI d q) = true ↔ Gm a b c d e f p q := by
  unfold Rt at h1 h2
  have m1 := mn_or a e; have m2 := mn_or b f; have m3 := mx_or c p; have m4 := mx_or d q
  constructor
  · intro h
    have cov : ∀ x y : Int, In (mnI a e) (mnI b f) (mxI c p) (mxI d q) x y → In a b c d x y ∨ In e f p q x y := fun x y hxy => (jn_at h x y (by unfold In at hxy; omega) (by unfold In at hxy; omega)).2.2 hxy
    have hap : c ≤ e ∨ p ≤ a ∨ d ≤ f ∨ q ≤ b := by
      refine Classical.byContradiction fun hno => ?_
      have n1 := mx_or a e; have n2 := mx_or b f
      exact (jn_at h (mxI a e) (mxI b f) (by omega) (by omega)).1 ⟨⟨by omega, by omega, by omega, by omega⟩, ⟨by omega, by omega, by omega, by omega⟩⟩
    clear h
    rcases hap with hp | hp | hp | hp
    · have i1 : b ≤ mnI b f := by rcases cov (a) (mnI b f) ⟨by omega, by omega, by omega, by omega⟩ with t | t <;> unfold In at t <;> omega
      have i2 : mxI d q ≤ d := by rcases cov (a) (mxI d q - 1) ⟨by omega, by omega, by omega, by omega⟩ with t | t <;> unfold In at t <;> omega
      have i3 : f ≤ mnI b f := by rcases cov (p - 1) (mnI b f) ⟨by omega, by omega, by omega, by omega⟩ with t | t <;> unfold In at t <;> omega
      have i4 : mxI d q ≤ q := by rcases cov (p - 1) (mxI d q - 1) ⟨by omega, by omega, by omega, by omega⟩ with t | t <;> unfold In at t <;> omega
      have i5 : e ≤ c := by rcases cov (c) (b) ⟨by omega, by omega, by omega, by omega⟩ with t | t <;> unfold In at t <;> omega
      left; omega
    · have i1 : f ≤ mnI b f := by rcases cov (e) (mnI b f) ⟨by omega, by omega, by omega, by omega⟩ with t | t <;> unfold In at t <;> omega
      have i2 : mxI d q ≤ q := by rcases cov (e) (mxI d q - 1) ⟨by omega, by omega, by omega, by omega⟩ with t | t <;> unfold In at t <;> omega
      have i3 : b ≤ mnI b f := by rcases cov (c - 1) (mnI b f) ⟨by omega, by omega, by omega, by omega⟩ with t | t <;> unfold In at t <;> omega
      have i4 : mxI d q ≤ d := by rcases cov (c - 1) (mxI d q - 1) ⟨by omega, by omega, by omega, by omega⟩ with t | t <;> unfold In at t <;> omega
      have i5 : a ≤ p := by rcases cov (p) (f) ⟨by omega, by omega, by omega, by omega⟩ with t | t <;> unfold In at t <;> omega
      right; left; omega
    · have i1 : a ≤ mnI a e := by rcases cov (mnI a e) (b) ⟨by omega, by omega, by omega, by omega⟩ with t | t <;> unfold In at t <;> omega
      have i2 : mxI c p ≤ c := by rcases cov (mxI c p - 1) (b) ⟨by omega, by omega, by omega, by omega⟩ with t | t <;> unfold In at t <;> omega
      have i3 : e ≤ mnI a e := by rcases cov (mnI a e) (q - 1) ⟨by omega, by omega, by omega, by omega⟩ with t | t <;> unfold In at t <;> omega
      have i4 : mxI c p ≤ p := by rcases cov (mxI c p - 1) (q - 1) ⟨by omega, by omega, by omega, by omega⟩ with t | t <;> unfold In at t <;> omega
      have i5 : f ≤ d := by rcases cov (a) (d) ⟨by omega, by omega, by omega, by omega⟩ with t | t <;> unfold In at t <;> omega
      right; right; left; omega
    · have i1 : e ≤ mnI a e := by rcases cov (mnI a e) (f) ⟨by omega, by omega, by omega, by omega⟩ with t | t <;> unfold In at t <;> omega
      have i2 : mxI c p ≤ p := by rcases cov (mxI c p - 1) (f) ⟨by omega, by omega, by omega, by omega⟩ with t | t <;> unfold In at t <;> omega
      have i3 : a ≤ mnI a e := by rcases cov (mnI a e) (d - 1) ⟨by omega, by omega, by omega, by omega⟩ with t | t <;> unfold In at t <;> omega
      have i4 : mxI c p ≤ c := by rcases cov (mxI c p - 1) (d - 1) ⟨by omega, by omega, by omega, by omega⟩ with t | t <;> unfold In at t <;> omega
      have i5 : b ≤ q := by rcases cov (e) (q) ⟨by omega, by omega, by omega, by omega⟩ with t | t <;> unfold In at t <;> omega
      right; right; right; omega
  · intro h
    unfold jnF
    rw [List.all_eq_true]; intro x hx
    rw [List.all_eq_true]; intro y hy
    have hx := List.mem_range.1 hx; have hy := List.mem_range.1 hy
    refine cel_iff.2 ?_
    unfold In
    rcases h with h | h | h | h <;> omega
theorem jo_jn {a b c d e f p q : Int} (h1 : Rt a b c d) (h2 : Rt e f p q) : joF a b c d e f p q = jnF a b c d e f p q (mnI a e) (mnI b f) (mxI c p) (mxI d q) := by
  rw [Bool.eq_iff_iff, jo_gm h1 h2, jn_gm h1 h2]
end Go.Proofs.Ytmlhekadnplpcaa
