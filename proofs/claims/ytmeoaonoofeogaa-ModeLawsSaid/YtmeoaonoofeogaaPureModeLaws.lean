/- For all whole numbers a, b, c the law of the lattice of lock modes answers true: the 216 triples of modes are computed one by one, and where one of the three is no mode the law asks the closed examples alone. No conditions. -/
import Derived.Test.YtmeoaonoofeogaaPAllx7
namespace Go.Proofs.Ytmeoaonoofeogaa.Pure
open Go.RowKit Go.Proofs.Ytmeoaonoofeogaa.PAll Go.Proofs.YtmeoaonoofeogaaW.PrintWords Go.Proofs.YtmeoaonoofeogaaW.PrintLast

theorem six_of {a : Int} (h : decide (0 ≤ a ∧ a ≤ 5) = true) : a = 0 ∨ a = 1 ∨ a = 2 ∨ a = 3 ∨ a = 4 ∨ a = 5 := by simp at h; omega
theorem right_at (a : Int) : mode_Right.f a = some (decide (0 ≤ a ∧ a ≤ 5)) := by
  unfold mode_Right.f; by_cases h : 0 ≤ a <;> simp [h]
theorem works_at : counterpanelaw10_works.f 28 = some true := by kernel_rfl
theorem out_at (a b c : Int) : counterpanelaw10_ModeLaws.j0 29 a b c true = some true := by
  simp only [counterpanelaw10_ModeLaws.j0, works_at, Option.bind_some, if_true]

theorem ModeLaws : counterpanelaw10_ModeLaws.Pure := by
  intro a b c _ _ _
  refine ⟨29, ?_⟩
  cases ha : decide (0 ≤ a ∧ a ≤ 5)
  · simp only [counterpanelaw10_ModeLaws.f, right_at, ha, Option.bind_some, Bool.false_eq_true, if_false, out_at]
  · cases hb : decide (0 ≤ b ∧ b ≤ 5)
    · simp only [counterpanelaw10_ModeLaws.f, right_at, ha, hb, Option.bind_some, Bool.false_eq_true, if_true, if_false, out_at]
    · cases hc : decide (0 ≤ c ∧ c ≤ 5)
      · simp only [counterpanelaw10_ModeLaws.f, right_at, ha, hb, hc, Option.bind_some, if_true, Bool.not_false, out_at]
      · rcases six_of ha with rfl | rfl | rfl | rfl | rfl | rfl <;> rcases six_of hb with rfl | rfl | rfl | rfl | rfl | rfl <;> rcases six_of hc with rfl | rfl | rfl | rfl | rfl | rfl <;> kernel_rfl

end Go.Proofs.Ytmeoaonoofeogaa.Pure
