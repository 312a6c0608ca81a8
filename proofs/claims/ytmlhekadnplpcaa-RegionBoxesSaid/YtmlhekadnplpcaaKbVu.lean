/- Walks by the logic of values. -/
import Derived.Test.YtmlhekadnplpcaaKbVa
import Derived.Test.YtmlhekadnplpcaaKbVd
import Derived.Test.YtmlhekadnplpcaaKbVo
import Derived.Test.YtmlhekadnplpcaaKbVs
import Derived.Test.YtmlhekadnplpcaaKbVl
import Derived.Test.YtmlhekadnplpcaaKbVmT
import Derived.Test.YtmlhekadnplpcaaKbVmP
import Derived.Test.YtmlhekadnplpcaaKbVmV
import Derived.Test.YtmlhekadnplpcaaKbVa
namespace Go.Proofs.Ytmlhekadnplpcaa
open Go.Vm
set_option linter.unusedVariables false
set_option linter.unusedSimpArgs false
theorem shape26 : shapeOf Try.prog 3 26 = some [CK.i .i64, CK.i .i64, CK.i .i64, CK.i .i64] := by kernel_rfl
theorem eqg26 : Try.prog.eqGuardType Try.prog.depth 26 = false := by kernel_rfl
theorem step_neq26 {o : Oper} {t : Nat → V} {x y : Operand} {a b c d e f p q : Int} {ty2 : TypeId} (ho : o.op = .binOp .neq 26 x y ty2) (hx : ev t x = .agg (bxB a b c d)) (hy : ev t y = .agg (bxB e f p q)) : StepOK Try.prog o t [] [] (.sc (.bool (!eqCs (bxV a b c d) (bxV e f p q)))) :=
  step_eq_agg (xs := bxV a b c d) (ys := bxV e f p q) ho hx hy shape26 (by omega) ⟨_, Try.underlying26, rfl⟩ eqg26 rfl rfl (.inr ⟨rfl, rfl⟩)
theorem bx_refl (a b c d : Int) : eqCs (bxV a b c d) (bxV a b c d) = true := by simp [bxV, eqCs, eqC]
theorem bx_eq {a b c d e f p q : Int} (h : a = e ∧ b = f ∧ c = p ∧ d = q) : eqCs (bxV a b c d) (bxV e f p q) = true := by obtain ⟨rfl, rfl, rfl, rfl⟩ := h; exact bx_refl _ _ _ _
theorem rhalves_q (a b c d : Int) (h : Rt a b c d) : Does Try.prog 17 [.agg (bxB a b c d)] [] [] (.tup [.agg (bxB a b (hU a b c d) (hV a b c d)), .agg (bxB (hX a b c d) (hY a b c d) c d), .sc (.bool (h3F a b c d))]) := by
  have h0 := rhalves_c a b c d h
  have e1 : h1F a b c d = bxB a b (hU a b c d) (hV a b c d) := by
    rcases h_cases a b c d with ⟨q, e1, e2, e3, e4⟩ | ⟨q, e1, e2, e3, e4⟩ | ⟨q, e1, e2, e3, e4⟩
    · unfold h1F; rw [e1, e2, if_pos q]
    · unfold h1F; rw [e1, e2, if_neg q.1, if_pos q.2]
    · unfold h1F; rw [e1, e2, if_neg q.1, if_neg q.2]
  have e2 : h2F a b c d = bxB (hX a b c d) (hY a b c d) c d := by
    rcases h_cases a b c d with ⟨q, e1, e2, e3, e4⟩ | ⟨q, e1, e2, e3, e4⟩ | ⟨q, e1, e2, e3, e4⟩
    · unfold h2F; rw [e3, e4, if_pos q]
    · unfold h2F; rw [e3, e4, if_neg q.1, if_pos q.2]
    · unfold h2F; rw [e3, e4, if_neg q.1, if_neg q.2]
  rw [e1, e2] at h0
  exact h0
theorem two_ce {a b c d : Int} (h : Rt a b c d) (h3 : h3F a b c d = true) : ceF a b c d > 1 := by
  have h5 := of_decide_eq_true h3
  unfold Rt at h; unfold ceF
  have k1 : (c - a) * 1 ≤ (c - a) * (d - b) := Int.mul_le_mul_of_nonneg_left (by omega) (by omega)
  have k2 : 1 * (d - b) ≤ (c - a) * (d - b) := Int.mul_le_mul_of_nonneg_right (by omega) (by omega)
  omega
theorem one_ce {a b c d : Int} (h : Rt a b c d) (h3 : h3F a b c d = false) : ¬ ceF a b c d > 1 := fun q => by
  have := ce_two h q
  have h5 := of_decide_eq_false h3
  exact h5 this
/-- The halves make the whole. -/
theorem whole {a b c d : Int} (h : Rt a b c d) (h3 : h3F a b c d = true) :
    (mnI a (hX a b c d) = a ∧ mnI b (hY a b c d) = b ∧ mxI (hU a b c d) c = c ∧ mxI (hV a b c d) d = d) ∧ joF a b (hU a b c d) (hV a b c d) (hX a b c d) (hY a b c d) c d = true ∧ ceF a b (hU a b c d) (hV a b c d) + ceF (hX a b c d) (hY a b c d) c d = ceF a b c d := by
  have hs := half_step h (of_decide_eq_true h3)
  have h5 := of_decide_eq_true h3
  have hg : Gm a b (hU a b c d) (hV a b c d) (hX a b c d) (hY a b c d) c d := by
    rcases h_cases a b c d with ⟨q, e1, e2, e3, e4⟩ | ⟨q, e1, e2, e3, e4⟩ | ⟨q, e1, e2, e3, e4⟩
    · exact absurd q h5
    · rw [e1, e2, e3, e4]; left; omega
    · rw [e1, e2, e3, e4]; right; right; left; omega
  refine ⟨?_, (jo_gm hs.1.1 hs.2.1).2 hg, ?_⟩
  · have m1 := mn_or a (hX a b c d); have m2 := mn_or b (hY a b c d); have m3 := mx_or (hU a b c d) c; have m4 := mx_or (hV a b c d) d
    have r1 := hs.1.1; have r2 := hs.2.1
    unfold Rt at h r1 r2
    rcases h_cases a b c d with ⟨q, e1, e2, e3, e4⟩ | ⟨q, e1, e2, e3, e4⟩ | ⟨q, e1, e2, e3, e4⟩ <;> omega
  · unfold ceF
    rcases h_cases a b c d with ⟨q, e1, e2, e3, e4⟩ | ⟨q, e1, e2, e3, e4⟩ | ⟨q, e1, e2, e3, e4⟩
    · exact absurd q h5
    · rw [e1, e2, e3, e4, ← Int.add_mul]; congr 1; omega
    · rw [e1, e2, e3, e4, ← Int.mul_add]; congr 1; omega
end Go.Proofs.Ytmlhekadnplpcaa
