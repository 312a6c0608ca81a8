/- Walks by the logic of values. -/
import Derived.Test.YtmlhekadnplpcaaKgVb
import Derived.Test.YtmlhekadnplpcaaKgVe
import Derived.Test.YtmlhekadnplpcaaKgVg
import Derived.Test.YtmlhekadnplpcaaKgVh
import Derived.Test.YtmlhekadnplpcaaKgVi
import Derived.Test.YtmlhekadnplpcaaKgVmT
import Derived.Test.YtmlhekadnplpcaaKgVmP
import Derived.Test.YtmlhekadnplpcaaKgVmV
import Derived.Test.YtmlhekadnplpcaaKgVa
namespace Go.Proofs.Ytmlhekadnplpcaa
open Go.Vm
set_option linter.unusedVariables false
set_option linter.unusedSimpArgs false
attribute [local irreducible] Go.Vm.beB
theorem ptB_byts (p : Pt) : Byts (ptB p) := by
  unfold ptB
  exact bytes_app (bytes_app (bytes_app (beB_bytes _ _) (beB_bytes _ _)) (beB_bytes _ _)) (beB_bytes _ _)
theorem fl_byts (l : List Pt) : Byts (l.flatMap ptB) := by
  intro x hx
  obtain ⟨p, _, hp⟩ := List.mem_flatMap.1 hx
  exact ptB_byts p x hp
theorem page_byts {nx : Int} {l : List Pt} (h : 0 ≤ nx ∧ nx < 256) (hl : l.length ≤ 8) : Byts (padP (pgP nx l l.length)) ∧ (padP (pgP nx l l.length)).length = 224 := by
  refine ⟨?_, padP_len (by rw [pgP_len nx (Nat.le_refl _)]; omega)⟩
  unfold padP pgP
  refine bytes_app (bytes_app ?_ (fl_byts _)) (fun x hx => by rw [List.eq_of_mem_replicate hx]; omega)
  intro x hx
  simp only [List.mem_cons, List.not_mem_nil, or_false] at hx
  rcases hx with rfl | rfl | rfl <;> omega
theorem pg_drop (nx : Int) (l : List Pt) (i : Nat) (hi : i ≤ l.length) : (padP (pgP nx l l.length)).drop (3 + 24 * i) = (l.drop i).flatMap ptB ++ List.replicate (224 - (3 + 24 * l.length)) 0 := by
  unfold padP
  rw [pgP_len nx (Nat.le_refl _)]
  unfold pgP
  rw [List.take_length, List.append_assoc, ← List.drop_drop]
  show (List.drop (24 * i) (l.flatMap ptB ++ List.replicate _ 0)) = _
  have e : l.flatMap ptB = (l.take i).flatMap ptB ++ (l.drop i).flatMap ptB := by rw [← List.flatMap_append, List.take_append_drop]
  have el : ((l.take i).flatMap ptB).length = 24 * i := by rw [fl_len, List.length_take, Nat.min_eq_left hi]
  rw [e, List.append_assoc, List.drop_append_of_le_length (by omega), List.drop_of_length_le (by omega), List.nil_append]
theorem pt_at {nx : Int} {l : List Pt} (hok : ∀ p ∈ l, okPt p) {i : Nat} (hi : (i : Int) < l.length) : ptAt (padP (pgP nx l l.length)) i = at' l (i : Int) := by
  obtain ⟨o1, o2, o3, o4⟩ := at_ok hok hi
  unfold ptAt
  rw [pg_drop nx l i (by omega), List.drop_eq_getElem_cons (by omega : i < l.length), List.flatMap_cons]
  have e : l[i] = at' l (i : Int) := (at_nat l i (by omega)).symm
  rw [e]
  generalize at' l (i : Int) = p at *
  unfold U32 at o1 o2
  unfold U64 at o3 o4
  have l4 : ∀ v : Int, (beB 4 v).length = 4 := fun v => beB_len 4 v
  have l8 : ∀ v : Int, (beB 8 v).length = 8 := fun v => beB_len 8 v
  have k1 := beN_beB 4 p.x (by omega) (by omega)
  have k2 := beN_beB 4 p.y (by omega) (by omega)
  have k3 := beN_beB 8 p.id (by omega) (by omega)
  have k4 := beN_beB 8 p.key (by omega) (by omega)
  unfold ptB
  simp only [List.append_assoc]
  rw [List.take_append_of_le_length (by rw [l4]; omega), List.take_of_length_le (by rw [l4]; omega), List.drop_append_of_le_length (by rw [l4]; omega), List.drop_of_length_le (by rw [l4]; omega), List.nil_append]
  rw [List.take_append_of_le_length (by rw [l4]; omega), List.take_of_length_le (by rw [l4]; omega), List.drop_append_of_le_length (by rw [l4]; omega), List.drop_of_length_le (by rw [l4]; omega), List.nil_append]
  rw [List.take_append_of_le_length (by rw [l8]; omega), List.take_of_length_le (by rw [l8]; omega), List.drop_append_of_le_length (by rw [l8]; omega), List.drop_of_length_le (by rw [l8]; omega), List.nil_append]
  rw [List.take_append_of_le_length (by rw [l8]; omega), List.take_of_length_le (by rw [l8]; omega), k1, k2, k3, k4]
theorem page_back {nx : Int} {l : List Pt} (h : 0 ≤ nx ∧ nx < 256) (hl : l.length ≤ 8) (hok : ∀ p ∈ l, okPt p) : rOk (padP (pgP nx l l.length)) = true ∧ rNx (padP (pgP nx l l.length)) = nx ∧ rPt (padP (pgP nx l l.length)) = l := by
  have e : ∃ T, padP (pgP nx l l.length) = 82 :: (nx % 256) :: (l.length : Int) :: T := ⟨_, rfl⟩
  obtain ⟨T, hT⟩ := e
  have m1 : mkF (padP (pgP nx l l.length)) = 82 := by rw [hT]; unfold mkF; simp [beN]
  have m2 : nxF (padP (pgP nx l l.length)) = nx := by rw [hT]; unfold nxF; simp [beN]; omega
  have m3 : cnF (padP (pgP nx l l.length)) = l.length := by rw [hT]; unfold cnF; simp [beN]
  have hg : rGd (padP (pgP nx l l.length)) = true := decide_eq_true ⟨m1, by rw [m3]; omega⟩
  refine ⟨?_, ?_, ?_⟩
  · unfold rOk
    rw [if_pos hg, m3, Int.toNat_natCast, pg_drop nx l l.length (Nat.le_refl _), List.drop_length]
    unfold noF
    simp
  · unfold rNx; rw [if_pos hg, m2]
  · unfold rPt
    rw [if_pos hg, m3, Int.toNat_natCast]
    unfold ptsB
    refine List.ext_getElem (by simp) (fun i h1 h2 => ?_)
    rw [List.getElem_map, List.getElem_range, pt_at hok (by omega), at_nat l i h2]
end Go.Proofs.Ytmlhekadnplpcaa
