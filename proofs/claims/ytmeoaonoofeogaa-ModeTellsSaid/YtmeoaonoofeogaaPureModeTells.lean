/- For all whole numbers a, b the law of what the modes tell answers true: the 36 pairs of modes are computed one by one; where one of the two is no mode, each function and its reference say so alike. No conditions. -/
import Derived.Test.YtmeoaonoofeogaaPAllx6
namespace Go.Proofs.Ytmeoaonoofeogaa.Pure
open Go.RowKit Go.Proofs.Ytmeoaonoofeogaa.PAll Go.Proofs.YtmeoaonoofeogaaW.PrintWords Go.Proofs.YtmeoaonoofeogaaW.PrintLast

def inB (a : Int) : Bool := decide (0 ≤ a ∧ a ≤ 5)
theorem six_in {a : Int} (h : inB a = true) : a = 0 ∨ a = 1 ∨ a = 2 ∨ a = 3 ∨ a = 4 ∨ a = 5 := by simp [inB] at h; omega
theorem right_in (a : Int) : mode_Right.f a = some (inB a) := by
  unfold mode_Right.f inB; by_cases h : 0 ≤ a <;> simp [h]
theorem rright_in (a : Int) : counterpaneref10_right.f a = some (inB a) := by
  unfold counterpaneref10_right.f inB; by_cases h : 0 ≤ a <;> simp [h]
theorem tog_out (a b : Int) (h : inB a = false ∨ inB b = false) (k : Nat) : counterpaneref10_Together.f (k + 1) a b = some false := by
  unfold counterpaneref10_Together.f
  simp only [rright_in, Option.bind_some]
  rcases h with h | h <;> by_cases ha : inB a = true <;> simp_all [counterpaneref10_Together.j0]
theorem tog_out' (a b : Int) (h : inB a = false ∨ inB b = false) : mode_Together.f a b = some false := by
  have e : ∀ x, mode_Together.in6 x = inB x := fun _ => rfl
  unfold mode_Together.f mode_Together.b
  rw [e, e]
  rcases h with h | h <;> simp [h]
theorem cov_out' (a b : Int) (h : inB a = false ∨ inB b = false) : mode_Covers.f a b = some false := by
  have e : ∀ x, mode_Covers.in6 x = inB x := fun _ => rfl
  unfold mode_Covers.f mode_Covers.b
  rw [e, e]
  rcases h with h | h <;> simp [h]
theorem cov_out (a b : Int) (h : inB a = false ∨ inB b = false) (k : Nat) : counterpaneref10_Covers.f k a b = some false := by
  unfold counterpaneref10_Covers.f
  simp only [rright_in, Option.bind_some]
  rcases h with h | h <;> by_cases ha : inB a = true <;> simp_all
theorem join_out' (a b : Int) (h : inB a = false ∨ inB b = false) (k : Nat) : mode_Join.f (k + 1) a b = some 5 := by
  unfold mode_Join.f
  simp only [right_in, Option.bind_some]
  rcases h with h | h <;> by_cases ha : inB a = true <;> simp_all [mode_Join.j0]
theorem cov_some (k : Nat) (m a : Int) : ∃ r, counterpaneref10_Covers.f (k + 1) m a = some r := by
  by_cases hm : inB m = false ∨ inB a = false
  · exact ⟨_, cov_out m a hm _⟩
  · simp only [not_or, Bool.not_eq_false] at hm
    rcases six_in hm.1 with rfl | rfl | rfl | rfl | rfl | rfl <;> rcases six_in hm.2 with rfl | rfl | rfl | rfl | rfl | rfl <;> exact ⟨_, rfl⟩
theorem join_step (a b : Int) (h : inB a = false ∨ inB b = false) (k : Nat) (m n : Int) (hn : wrap64 (m + 1) = n) (hm : m < 6) :
    counterpaneref10_Join.l0 (k + 2) a b m = counterpaneref10_Join.l0 (k + 1) a b n := by
  rw [counterpaneref10_Join.l0.eq_def]
  simp only [if_pos hm, hn]
  obtain ⟨r, hr⟩ := cov_some k m a
  cases r
  · simp [hr]
  · have hb : counterpaneref10_Covers.f (k + 1) m b = some false := by
      rcases h with h | h
      · rw [cov_out m a (Or.inr h)] at hr; cases hr
      · exact cov_out m b (Or.inr h) _
    simp [hr, hb]
theorem join_out (a b : Int) (h : inB a = false ∨ inB b = false) (k : Nat) : counterpaneref10_Join.f (k + 7) a b = some 5 := by
  unfold counterpaneref10_Join.f
  rw [join_step a b h _ 0 1 (by kernel_rfl) (by decide), join_step a b h _ 1 2 (by kernel_rfl) (by decide), join_step a b h _ 2 3 (by kernel_rfl) (by decide), join_step a b h _ 3 4 (by kernel_rfl) (by decide), join_step a b h _ 4 5 (by kernel_rfl) (by decide), join_step a b h _ 5 6 (by kernel_rfl) (by decide)]
  simp [counterpaneref10_Join.l0]
theorem above_same (a : Int) : counterpaneref10_Above.f a = mode_Above.f a := rfl
theorem above_some (a : Int) : ∃ r, mode_Above.f a = some r := by
  unfold mode_Above.f
  (repeat' split) <;> exact ⟨_, rfl⟩
theorem name_nil (a : Int) : ∃ s, mode_Name.f a = some s ∧ ((s.toList == ([] : List UInt8)) == (!inB a)) = true := by
  refine ⟨_, rfl, ?_⟩
  by_cases h : inB a = true
  · rcases six_in h with rfl | rfl | rfl | rfl | rfl | rfl <;> kernel_rfl
  · have e : mode_Name.in6 a = inB a := rfl
    simp only [Bool.not_eq_true] at h
    unfold mode_Name.s
    rw [e, h, if_neg (by decide)]
    simp
theorem works_in : counterpanelaw10_works.f 28 = some true := by kernel_rfl

theorem tells_j (a b : Int) (h : inB a = false ∨ inB b = false) : counterpanelaw10_ModeTells.j0 29 a b false = some true := by
  obtain ⟨r, hr⟩ := above_some a
  obtain ⟨s, hs, hn⟩ := name_nil a
  simp only [counterpanelaw10_ModeTells.j0, Bool.false_eq_true, if_false, join_out' a b h 27, join_out a b h 21, Option.bind_some, if_true, above_same, hr, hs, right_in, hn, works_in]

theorem ModeTells : counterpanelaw10_ModeTells.Pure := by
  intro a b _ _
  refine ⟨29, ?_⟩
  by_cases h : inB a = false ∨ inB b = false
  · have e : (0 ≤ a → (inB a != decide (a ≤ 5)) = false) ∧ (¬ 0 ≤ a → inB a = false) := by
      constructor <;> intro h0 <;> simp [inB, h0]
    unfold counterpanelaw10_ModeTells.f
    simp only [right_in, Option.bind_some, tog_out a b h, tog_out' a b h, cov_out a b h, cov_out' a b h]
    by_cases h0 : 0 ≤ a
    · simp [h0, e.1 h0, tells_j a b h]
    · simp [h0, e.2 h0, tells_j a b h]
  · simp only [not_or, Bool.not_eq_false] at h
    rcases six_in h.1 with rfl | rfl | rfl | rfl | rfl | rfl <;> rcases six_in h.2 with rfl | rfl | rfl | rfl | rfl | rfl <;> kernel_rfl

end Go.Proofs.Ytmeoaonoofeogaa.Pure
