import Derived.Test.YtcemdkppkklfnaaPAllx15
import Derived.Test.YtcemdkppkklfnaaRectF
namespace Go.Proofs.Ytcemdkppkklfnaa.Pure
open Go.RowKit Go.Proofs.Ytcemdkppkklfnaa.PAll Go.Proofs.YtcemdkppkklfnaaW.PrintWords Go.Proofs.YtcemdkppkklfnaaW.PrintLast

theorem points_j0 (x y a b c d e f g h : Int) (p q : Bool) (hx : 0 ≤ x ∧ x < 4294967296) (hy : 0 ≤ y ∧ y < 4294967296)
    (hw : (Em a b c d ∨ (¬ Em e f g h ∧ e ≤ a ∧ f ≤ b ∧ c ≤ g ∧ d ≤ h)) → p = true → q = true) :
    counterpanelaw04_RectPoints.j0 1 x y p q false a b c d e f g h = some true := by
  unfold counterpanelaw04_RectPoints.j0
  have hin : In 0 0 4294967295 4294967295 x y := by unfold In; omega
  simp only [within_eq, all_eq, has_eq, works_eq, Option.bind_some, hin]
  by_cases hW : (Em a b c d ∨ (¬ Em e f g h ∧ e ≤ a ∧ f ≤ b ∧ c ≤ g ∧ d ≤ h))
  · cases p <;> simp_all
  · simp [hW]

theorem RectPoints : counterpanelaw04_RectPoints.Pure := by
  intro a b c d e f g h x y h0 h1 h2 h3 h4 h5 h6 h7 h8 h9
  have hx := u32_of h8
  have hy := u32_of h9
  clear h0 h1 h2 h3 h4 h5 h6 h7 h8 h9
  refine ⟨1, ?_⟩
  unfold counterpanelaw04_RectPoints.f
  simp only [refHas_eq, has_eq, meet_eq, hull_eq, empty_eq, meets_eq, Option.bind_some]
  have hm : In (max a e) (max b f) (min c g) (min d h) x y ↔ (In a b c d x y ∧ In e f g h x y) := by unfold In; omega
  by_cases p : In a b c d x y <;> by_cases q : In e f g h x y
  · -- both
    have ha : ¬ Em a b c d := by unfold In at p; unfold Em; omega
    have hb : ¬ Em e f g h := by unfold In at q; unfold Em; omega
    have hc : ¬ Em (max a e) (max b f) (min c g) (min d h) := by have := hm.2 ⟨p, q⟩; unfold In at this; unfold Em; omega
    have hh : In (min a e) (min b f) (max c g) (max d h) x y := by unfold In at p ⊢; omega
    simp [hm, p, q, ha, hb, hc, hh]
    exact points_j0 _ _ _ _ _ _ _ _ _ _ _ _ hx hy (by simp)
  · have ha : ¬ Em a b c d := by unfold In at p; unfold Em; omega
    have hw : ¬ (¬ Em e f g h ∧ e ≤ a ∧ f ≤ b ∧ c ≤ g ∧ d ≤ h) := by unfold In at p q; unfold Em; omega
    by_cases hb : Em e f g h
    · simp [hm, p, q, ha, hb]
      exact points_j0 _ _ _ _ _ _ _ _ _ _ _ _ hx hy (fun h => absurd h (by simp only [not_or]; exact ⟨ha, hw⟩))
    · have hh : In (min a e) (min b f) (max c g) (max d h) x y := by unfold In at p ⊢; omega
      simp [hm, p, q, ha, hb, hh]
      exact points_j0 _ _ _ _ _ _ _ _ _ _ _ _ hx hy (fun h => absurd h (by simp only [not_or]; exact ⟨ha, hw⟩))
  · by_cases ha : Em a b c d
    · simp [hm, p, q, ha]
      exact points_j0 _ _ _ _ _ _ _ _ _ _ _ _ hx hy (by simp)
    · have hb : ¬ Em e f g h := by unfold In at q; unfold Em; omega
      have hh : In (min a e) (min b f) (max c g) (max d h) x y := by unfold In at q ⊢; omega
      simp [hm, p, q, ha, hb, hh]
      exact points_j0 _ _ _ _ _ _ _ _ _ _ _ _ hx hy (by simp)
  · simp [hm, p, q]
    exact points_j0 _ _ _ _ _ _ _ _ _ _ _ _ hx hy (by simp)
end Go.Proofs.Ytcemdkppkklfnaa.Pure
