/- The rectangle functions in closed form. -/
import Derived.Test.YtcemdkppkklfnaaPAllx14
import Derived.Test.YtcemdkppkklfnaaPAllx2
namespace Go.Proofs.Ytcemdkppkklfnaa.Pure
open Go.RowKit Go.Proofs.Ytcemdkppkklfnaa.PAll Go.Proofs.YtcemdkppkklfnaaW.PrintWords Go.Proofs.YtcemdkppkklfnaaW.PrintLast
def In (a b c d x y : Int) : Prop := a ≤ x ∧ x ≤ c ∧ b ≤ y ∧ y ≤ d
instance (a b c d x y : Int) : Decidable (In a b c d x y) := inferInstanceAs (Decidable (_ ∧ _))
def Em (a b c d : Int) : Prop := a > c ∨ b > d
instance (a b c d : Int) : Decidable (Em a b c d) := inferInstanceAs (Decidable (_ ∨ _))
theorem mx_max (a b : Int) : mx a b = max a b := by unfold mx; omega
theorem mn_min (a b : Int) : mn a b = min a b := by unfold mn; omega
theorem refHas_eq (a b c d x y : Int) : counterpaneref04_Has.f a b c d x y = some (decide (In a b c d x y)) := by
  unfold counterpaneref04_Has.f In
  by_cases h1 : a ≤ x <;> by_cases h2 : x ≤ c <;> by_cases h3 : b ≤ y <;> simp [h1, h2, h3]
theorem has_eq (a b c d x y : Int) : rect_Has.f a b c d x y = some (decide (In a b c d x y)) := by
  unfold rect_Has.f In
  by_cases h1 : a ≤ x <;> by_cases h2 : x ≤ c <;> by_cases h3 : b ≤ y <;> simp [h1, h2, h3]
theorem empty_eq (a b c d : Int) : rect_Empty.f a b c d = some (decide (Em a b c d)) := by
  unfold rect_Empty.f Em
  by_cases h1 : a > c <;> simp [h1]
theorem meet_eq (a b c d e f g h : Int) : rect_Meet.f a b c d e f g h = some (max a e, max b f, min c g, min d h) := by
  unfold rect_Meet.f
  simp only [mx_max, mn_min]
theorem meets_eq (a b c d e f g h : Int) : rect_Meets.f a b c d e f g h = some (decide (¬ Em a b c d ∧ ¬ Em e f g h ∧ ¬ Em (max a e) (max b f) (min c g) (min d h))) := by
  unfold rect_Meets.f
  simp only [empty_eq, meet_eq, Option.bind_some]
  by_cases h1 : Em a b c d <;> by_cases h2 : Em e f g h <;> simp [h1, h2]
theorem within_eq (a b c d e f g h : Int) : rect_Within.f a b c d e f g h = some (decide (Em a b c d ∨ (¬ Em e f g h ∧ e ≤ a ∧ f ≤ b ∧ c ≤ g ∧ d ≤ h))) := by
  unfold rect_Within.f
  simp only [empty_eq, meet_eq, Option.bind_some]
  have e1 : (max a e == a && (max b f == b && (min c g == c && (min d h == d)))) = decide (e ≤ a ∧ f ≤ b ∧ c ≤ g ∧ d ≤ h) := by
    rw [Bool.eq_iff_iff]; simp only [Bool.and_eq_true, beq_iff_eq, decide_eq_true_eq]; omega
  rw [e1]
  by_cases h1 : Em a b c d <;> by_cases h2 : Em e f g h <;> simp [h1, h2]
theorem hull_eq (a b c d e f g h : Int) : rect_Hull.f a b c d e f g h = some (if Em a b c d then (e, f, g, h) else if Em e f g h then (a, b, c, d) else (min a e, min b f, max c g, max d h)) := by
  unfold rect_Hull.f
  simp only [empty_eq, Option.bind_some, mx_max, mn_min]
  by_cases h1 : Em a b c d <;> by_cases h2 : Em e f g h <;> simp [h1, h2]
theorem all_eq : rect_All.f = some (0, 0, 4294967295, 4294967295) := rfl
theorem works_eq : counterpanelaw04_works.f = some true := by decide +kernel
theorem u32_of {a : Int} (h : (Lit.int .u32 a).wf = true) : 0 ≤ a ∧ a < 4294967296 := by
  simp [Lit.wf, IntKind.min, IntKind.max, IntKind.signed, IntKind.bits] at h
  omega
end Go.Proofs.Ytcemdkppkklfnaa.Pure
