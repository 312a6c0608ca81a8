import Derived.Test.YthpkhecialkmmaaKkQq
import Derived.Test.YthpkhecialkmmaaKkVmD
set_option linter.unusedVariables false
set_option linter.unusedSimpArgs false
namespace Go.Vm
section
variable {P : Program} {o : Oper} {t : Nat → V} {pre up : List (Nat × Box)} {val : V}
theorem RowsAt.flat {X : Ctx} {e : Nat} : ∀ {xs : List (List V)} {b q : Nat}, RowsAt X e xs b q → ∃ us, RowRep X xs.flatten us ∧ us.length = xs.length * e ∧ (∀ j v, us[j]? = some v → X.w.cell? ⟨b, q + j, none⟩ = some v) ∧ ∀ x ∈ us, oneV x = true
  | [], b, q, h => ⟨[], by simp [RowRep], by simp, by simp, by simp⟩
  | r :: rs, b, q, h => by
    simp only [RowsAt] at h
    obtain ⟨h1, h2, h3⟩ := h
    obtain ⟨us, g1, g2, g3⟩ := h2.row
    obtain ⟨us', k1, k2, k3, k4⟩ := RowsAt.flat h3
    have hl : us.length = e := by rw [← g1.length]; exact h1
    refine ⟨us ++ us', by simpa using g1.append k1, ?_, fun j v hj => ?_, ?_⟩
    · simp [hl, k2, Nat.add_mul]; omega
    · by_cases hlt : j < us.length
      · rw [List.getElem?_append_left hlt] at hj; exact g2 j v hj
      · rw [List.getElem?_append_right (by omega)] at hj
        have := k3 _ _ hj
        rw [show q + j = q + e + (j - us.length) by omega]
        exact this
    · intro x hx
      rcases List.mem_append.1 hx with hx | hx
      · exact g3 x hx
      · exact k4 x hx
theorem RowsAt.lens {X : Ctx} {e : Nat} : ∀ {xs : List (List V)} {b q : Nat}, RowsAt X e xs b q → ∀ r ∈ xs, r.length = e
  | [], b, q, h => by simp
  | r :: rs, b, q, h => by
    simp only [RowsAt] at h
    intro r' hr'
    rcases List.mem_cons.1 hr' with rfl | hr'
    · exact h.1
    · exact RowsAt.lens h.2.2 r' hr'
theorem RowsAt.append {X : Ctx} {e : Nat} : ∀ {xs ys : List (List V)} {b q : Nat}, RowsAt X e xs b q → RowsAt X e ys b (q + xs.length * e) → RowsAt X e (xs ++ ys) b q
  | [], ys, b, q, h, g => by simpa using g
  | r :: rs, ys, b, q, h, g => by
    simp only [RowsAt] at h
    simp only [List.cons_append, RowsAt]
    refine ⟨h.1, h.2.1, RowsAt.append h.2.2 ?_⟩;rw [List.length_cons, Nat.add_mul] at g;rw [show q + e + rs.length * e = q + (rs.length * e + 1 * e) by omega];exact g
end
end Go.Vm
