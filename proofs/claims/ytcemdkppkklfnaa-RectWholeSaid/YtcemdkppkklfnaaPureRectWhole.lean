import Derived.Test.YtcemdkppkklfnaaRWS
import Derived.Test.YtcemdkppkklfnaaRectF
namespace Go.Proofs.Ytcemdkppkklfnaa.Pure
set_option linter.unusedSimpArgs false
open Go.RowKit Go.Proofs.Ytcemdkppkklfnaa.PAll Go.Proofs.YtcemdkppkklfnaaW.PrintWords Go.Proofs.YtcemdkppkklfnaaW.PrintLast

theorem whole_j2 (k : Nat) (a b c d e f g h p q r s : Int) (ha : ¬ Em a b c d) :
    counterpanelaw04_RectWhole.j2 (k + 1) false a b c d e f g h p q r s = some true := by
  unfold counterpanelaw04_RectWhole.j2
  simp only [hull_eq, within_eq, works_eq, Option.bind_some, ha, if_false]
  by_cases hb : Em e f g h
  · simp [hb, ha]
  · have h1 : ¬ Em (min a e) (min b f) (max c g) (max d h) := by unfold Em at ha ⊢; omega
    have h2 : (min a e ≤ a ∧ min b f ≤ b ∧ c ≤ max c g ∧ d ≤ max d h) := by omega
    have h3 : (min a e ≤ e ∧ min b f ≤ f ∧ g ≤ max c g ∧ h ≤ max d h) := by omega
    simp only [hb, h1, h2, h3, false_or, not_false_eq_true, true_and, decide_true, if_true, Bool.false_eq_true, if_false, and_self]
    by_cases hc : Em p q r s
    · simp [hc]
    · by_cases x : (p ≤ a ∧ q ≤ b ∧ c ≤ r ∧ d ≤ s)
      · by_cases y : (p ≤ e ∧ q ≤ f ∧ g ≤ r ∧ h ≤ s)
        · have z : (p ≤ min a e ∧ q ≤ min b f ∧ max c g ≤ r ∧ max d h ≤ s) := by omega
          simp only [hc, x, y, z, not_false_eq_true, true_and, and_self, decide_true, if_true]
        · simp only [hc, x, y, not_false_eq_true, true_and, and_self, and_false, decide_true, decide_false, if_true, Bool.false_eq_true, if_false]
      · simp only [hc, x, not_false_eq_true, true_and, and_self, and_false, decide_true, decide_false, if_true, Bool.false_eq_true, if_false]

theorem whole_j1 (k : Nat) (a b c d e f g h p q r s : Int) (ha : ¬ Em a b c d) :
    counterpanelaw04_RectWhole.j1 (k + 2) false a b c d e f g h p q r s = some true := by
  unfold counterpanelaw04_RectWhole.j1
  have hs : decide (¬ Em a b c d ∧ ¬ Em e f g h ∧ ¬ Em (max a e) (max b f) (min c g) (min d h)) = decide (¬ Em e f g h ∧ ¬ Em a b c d ∧ ¬ Em (max e a) (max f b) (min g c) (min h d)) := by
    rw [Int.max_comm a, Int.max_comm b, Int.min_comm c, Int.min_comm d]
    simp only [Bool.decide_and]
    cases decide (¬ Em a b c d) <;> cases decide (¬ Em e f g h) <;> simp
  have hz : ∀ z : Bool, (z != z) = false := by intro z; cases z <;> rfl
  simp only [meet_eq, meets_eq, empty_eq, Option.bind_some, hs, hz, whole_j2 k _ _ _ _ _ _ _ _ _ _ _ _ ha, Bool.false_eq_true, if_false]
  by_cases hb : Em e f g h
  · simp [hb]
  · by_cases h1 : max a e ≤ min c g
    · have e1 : decide (¬ Em e f g h ∧ ¬ Em a b c d ∧ ¬ Em (max e a) (max f b) (min g c) (min h d)) = decide (max b f ≤ min d h) := by
        rw [decide_eq_decide]; unfold Em at *; omega
      simp only [e1]
      simp only [hb, h1, decide_false, Bool.false_eq_true, if_false, if_true, hz]
    · have e1 : decide (¬ Em e f g h ∧ ¬ Em a b c d ∧ ¬ Em (max e a) (max f b) (min g c) (min h d)) = false := by
        rw [decide_eq_false_iff_not]; unfold Em at *; omega
      simp only [e1]
      simp only [hb, h1, decide_false, Bool.false_eq_true, if_false, if_true, hz]

theorem whole_j0 (k : Nat) (a b c d e f g h p q r s : Int) (t : Bool) (ha : ¬ Em a b c d) (ht : t = decide (¬ Em e f g h ∧ e ≤ a ∧ f ≤ b ∧ c ≤ g ∧ d ≤ h)) :
    counterpanelaw04_RectWhole.j0 (k + 3) t a b c d e f g h p q r s = some true := by
  unfold counterpanelaw04_RectWhole.j0
  have h1 : In a b c d a b := by unfold In; unfold Em at ha; omega
  have h2 : In a b c d c d := by unfold In; unfold Em at ha; omega
  have hz : ∀ z : Bool, (z != z) = false := by intro z; cases z <;> rfl
  simp only [refHas_eq, within_eq, Option.bind_some, h1, h2, decide_true, if_true, ha, false_or, ht, hz]
  exact whole_j1 k _ _ _ _ _ _ _ _ _ _ _ _ ha

theorem RectWhole : counterpanelaw04_RectWhole.Pure := by
  intro a b c d e f g h p q r s h0 h1 h2 h3 h4 h5 h6 h7 h8 h9 h10 h11
  clear h0 h1 h2 h3 h4 h5 h6 h7 h8 h9 h10 h11
  refine ⟨3, ?_⟩
  unfold counterpanelaw04_RectWhole.f
  by_cases ha : Em a b c d
  · simp [empty_eq, meets_eq, within_eq, hull_eq, works_eq, ha]
  · simp only [empty_eq, refHas_eq, Option.bind_some, ha, decide_false, Bool.false_eq_true, if_false]
    by_cases h1 : In e f g h a b
    · simp only [h1, decide_true, if_true]
      refine whole_j0 0 _ _ _ _ _ _ _ _ _ _ _ _ _ ha ?_
      rw [decide_eq_decide]
      unfold In at *
      unfold Em at *
      omega
    · simp only [h1, decide_false, Bool.false_eq_true, if_false]
      refine whole_j0 0 _ _ _ _ _ _ _ _ _ _ _ _ _ ha ?_
      symm
      rw [decide_eq_false_iff_not]
      unfold In at *
      unfold Em at *
      omega
end Go.Proofs.Ytcemdkppkklfnaa.Pure
