/- Walks by the logic of values. -/
import Derived.Test.YthpkhecialkmmaaKeVmT
import Derived.Test.YthpkhecialkmmaaKeVmP
import Derived.Test.YthpkhecialkmmaaKeVmV
import Derived.Test.YthpkhecialkmmaaKeVmO
import Derived.Test.YthpkhecialkmmaaKeVa
import Derived.Test.YthpkhecialkmmaaKeVb
namespace Go.Proofs.Ythpkhecialkmmaa
open Go.Vm
set_option linter.unusedVariables false
set_option linter.unusedSimpArgs false
/-! The tiles, checked one by one. -/
def rowN (y x : Nat) : Nat → List Nat
  | 0 => []
  | k + 1 => (y * 8 + x) :: rowN y (x + 1) k
def tilN (x w y : Nat) : Nat → List Nat
  | 0 => []
  | k + 1 => rowN y x w ++ tilN x w (y + 1) k
def tstN (A B C D t : Nat) : Bool := Nat.ble A (t % 8) && Nat.ble (t % 8) C && Nat.ble B (t / 8) && Nat.ble (t / 8) D
theorem tab : ((List.range 8).all fun A => (List.range 8).all fun B => (List.range 8).all fun C => (List.range 8).all fun D => tilN A (C + 1 - A) B (D + 1 - B) == (List.range 64).filter (tstN A B C D)) = true := by decide +kernel
theorem row_N (y x k : Nat) : rowT (y : Int) (x : Int) k = (rowN y x k).map fun (i : Nat) => (i : Int) := by
  induction k generalizing x with
  | zero => rfl
  | succ k ih =>
    have := ih (x + 1)
    simp only [rowT, rowN, List.map_cons]
    rw [← this]
    simp
theorem til_N (x w y k : Nat) : tilT (x : Int) w (y : Int) k = (tilN x w y k).map fun (i : Nat) => (i : Int) := by
  induction k generalizing y with
  | zero => rfl
  | succ k ih =>
    have := ih (y + 1)
    simp only [tilT, tilN, List.map_append]
    rw [← this, row_N]
    simp
theorem tou_ref {a b c d : Int} (g0 : 0 ≤ a ∧ a ≤ 4294967295) (g1 : 0 ≤ b ∧ b ≤ 4294967295) (g2 : 0 ≤ c ∧ c ≤ 4294967295) (g3 : 0 ≤ d ∧ d ≤ 4294967295) : touL a b c d = refL a b c d 64 := by
  unfold touL refL
  by_cases he : emF a b c d = true
  · rw [if_pos he]
    have he' := of_decide_eq_true he
    rw [List.filter_eq_nil_iff.2 (fun t _ => by unfold tosF; rw [decide_eq_false (fun h => h.1 he')]; simp)]
    rfl
  · rw [if_neg he]
    have he' : ¬ (a > c ∨ b > d) := fun h => he (decide_eq_true h)
    obtain ⟨A, hA⟩ : ∃ A : Nat, (A : Int) = a / 536870912 := ⟨(a / 536870912).toNat, by omega⟩
    obtain ⟨B, hB⟩ : ∃ A : Nat, (A : Int) = b / 536870912 := ⟨(b / 536870912).toNat, by omega⟩
    obtain ⟨C, hC⟩ : ∃ A : Nat, (A : Int) = c / 536870912 := ⟨(c / 536870912).toNat, by omega⟩
    obtain ⟨D, hD⟩ : ∃ A : Nat, (A : Int) = d / 536870912 := ⟨(d / 536870912).toNat, by omega⟩
    rw [← hA, ← hB, ← hC, ← hD, show ((C : Int) + 1 - A).toNat = C + 1 - A by omega, show ((D : Int) + 1 - B).toNat = D + 1 - B by omega, til_N]
    have h1 := List.all_eq_true.1 tab A (List.mem_range.2 (by omega))
    have h2 := List.all_eq_true.1 h1 B (List.mem_range.2 (by omega))
    have h3 := List.all_eq_true.1 h2 C (List.mem_range.2 (by omega))
    have h4 := List.all_eq_true.1 h3 D (List.mem_range.2 (by omega))
    rw [eq_of_beq h4]
    congr 1
    refine List.filter_congr fun t ht => ?_
    have ht := List.mem_range.1 ht
    have e : tstN A B C D t = decide (A ≤ t % 8 ∧ t % 8 ≤ C ∧ B ≤ t / 8 ∧ t / 8 ≤ D) := by
      unfold tstN
      rw [Bool.eq_iff_iff]
      simp only [Bool.and_eq_true, Nat.ble_eq, decide_eq_true_eq]
      omega
    rw [e]
    unfold tosF
    rw [decide_eq_decide]
    rw [← hA, ← hB, ← hC, ← hD]
    constructor
    · intro h; exact ⟨he', by omega⟩
    · intro h; have := h.2; omega
theorem mem_tou {a b c d t : Int} (g0 : 0 ≤ a ∧ a ≤ 4294967295) (g1 : 0 ≤ b ∧ b ≤ 4294967295) (g2 : 0 ≤ c ∧ c ≤ 4294967295) (g3 : 0 ≤ d ∧ d ≤ 4294967295) : t ∈ touL a b c d ↔ 0 ≤ t ∧ t < 64 ∧ tosF a b c d t = true := by
  rw [tou_ref g0 g1 g2 g3]
  unfold refL
  simp only [List.mem_map, List.mem_filter, List.mem_range]
  constructor
  · rintro ⟨i, ⟨h1, h2⟩, rfl⟩; exact ⟨by omega, by omega, h2⟩
  · rintro ⟨h1, h2, h3⟩; exact ⟨t.toNat, ⟨by omega, by rw [show ((t.toNat : Nat) : Int) = t by omega]; exact h3⟩, by omega⟩
theorem ti_bd {x y : Int} (hx : 0 ≤ x ∧ x ≤ 4294967295) (hy : 0 ≤ y ∧ y ≤ 4294967295) : 0 ≤ tiF x y ∧ tiF x y ≤ 63 := by unfold tiF; omega
end Go.Proofs.Ythpkhecialkmmaa

