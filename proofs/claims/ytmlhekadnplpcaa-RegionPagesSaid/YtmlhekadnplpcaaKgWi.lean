/- Walks by the logic of values. -/
import Derived.Test.YtmlhekadnplpcaaKgVb
import Derived.Test.YtmlhekadnplpcaaKgVc
import Derived.Test.YtmlhekadnplpcaaKgVe
import Derived.Test.YtmlhekadnplpcaaKgVg
import Derived.Test.YtmlhekadnplpcaaKgVh
import Derived.Test.YtmlhekadnplpcaaKgVi
import Derived.Test.YtmlhekadnplpcaaKgWh
import Derived.Test.YtmlhekadnplpcaaKgVmT
import Derived.Test.YtmlhekadnplpcaaKgVmP
import Derived.Test.YtmlhekadnplpcaaKgVmV
import Derived.Test.YtmlhekadnplpcaaKgVa
namespace Go.Proofs.Ytmlhekadnplpcaa
open Go.Vm
set_option linter.unusedVariables false
set_option linter.unusedSimpArgs false
attribute [local irreducible] Go.Vm.beB
def pgs (n : Nat) : List Int := (List.range n).map fun (i : Nat) => 20 + 2 * (i : Int)
theorem pgs_len (n : Nat) : (pgs n).length = n := by simp [pgs]
theorem pgs_at {n i : Nat} (h : i < n) : at' (pgs n) (i : Int) = 20 + 2 * (i : Int) := by
  rw [at_nat _ _ (by rw [pgs_len]; exact h)]
  simp [pgs]
theorem pgs_s (i : Nat) : (pgs (i + 1)).map iR = (pgs i).map iR ++ [iR (20 + 2 * (i : Int))] := by unfold pgs; rw [List.range_succ]; simp
theorem pgs_take {n i : Nat} (h : i ≤ n) : (pgs n).take i = pgs i := by
  unfold pgs; rw [← List.map_take, List.take_range, Nat.min_eq_left h]
theorem pgs_t {n i : Nat} (h : i < n) : (pgs n).take i ++ [20 + 2 * (i : Int)] = (pgs n).take (i + 1) := by
  rw [pgs_take (by omega), pgs_take (by omega)]; unfold pgs; rw [List.range_succ]; simp
abbrev Im := Int × List Int
def lkQ (Q : List Im) (w : Int) : Option Im := Q.find? fun q => decide (q.1 = w)
def lkP (Q : List Im) (w : Int) : List Int := match lkQ Q w with | some q => q.2 | none => List.replicate 224 0
def lkO (Q : List Im) (w : Int) : Bool := (lkQ Q w).isSome
theorem lk_no {Q : List Im} {w : Int} (h : ∀ q ∈ Q, q.1 ≠ w) : lkQ Q w = none := by
  unfold lkQ; rw [List.find?_eq_none]; intro q hq; simpa using h q hq
theorem imat {Q : List Im} {i : Nat} (h : (i : Int) < Q.length) : Q[i]? = some (at' Q (i : Int)) := by
  rw [List.getElem?_eq_getElem (by omega), at_nat _ _ (by omega)]
theorem lk_yes {Q : List Im} {w : Int} {i : Nat} (h : ∀ q ∈ Q.take i, q.1 ≠ w) (hi : (i : Int) < Q.length) (e : (at' Q (i : Int)).1 = w) : lkQ Q w = some (at' Q (i : Int)) := by
  have h2 : Q = Q.take i ++ at' Q (i : Int) :: Q.drop (i + 1) := by
    conv => lhs; rw [← List.take_append_drop i Q]
    rw [List.drop_eq_getElem_cons (by omega), at_nat _ _ (by omega)]
  unfold lkQ
  rw [h2, List.find?_append, List.find?_eq_none.2 (fun q hq => by simpa using h q hq)]
  simp only [Option.none_or, List.find?_cons]
  rw [← h2, e, decide_eq_true rfl]
theorem lk_s {Q : List Im} {w : Int} {i : Nat} (h : ∀ q ∈ Q.take i, q.1 ≠ w) (hi : (i : Int) < Q.length) (e : ¬ (at' Q (i : Int)).1 = w) : ∀ q ∈ Q.take (i + 1), q.1 ≠ w := by
  rw [List.take_add_one, imat hi]
  intro q hq
  simp only [Option.toList, List.mem_append, List.mem_singleton] at hq
  rcases hq with hq | rfl
  · exact h q hq
  · exact e
theorem lkP_len {Q : List Im} (hQ : ∀ q ∈ Q, q.2.length = 224) (w : Int) : (lkP Q w).length = 224 := by
  unfold lkP
  split
  · rename_i q h; exact hQ q (List.mem_of_find?_eq_some h)
  · rw [List.length_replicate]
theorem lkP_byts {Q : List Im} (hQ : ∀ q ∈ Q, Byts q.2) (w : Int) : Byts (lkP Q w) := by
  unfold lkP
  split
  · rename_i q h; exact hQ q (List.mem_of_find?_eq_some h)
  · intro x hx; rw [List.eq_of_mem_replicate hx]; omega
theorem nx_ok {n : Nat} {l : List Pt} (hn : 1 ≤ n ∧ n ≤ 4) (hl : l.length ≤ 8 * n) (hok : ∀ p ∈ l, okPt p) (i : Nat) : 0 ≤ nxA (pgs n) i ∧ nxA (pgs n) i < 256 := by
  unfold nxA
  split
  · rename_i h; rw [pgs_len] at h; rw [pgs_at h]; omega
  · omega
theorem im_byts {n : Nat} {l : List Pt} (hn : 1 ≤ n ∧ n ≤ 4) (hl : l.length ≤ 8 * n) (hok : ∀ p ∈ l, okPt p) (i : Nat) : Byts (imA (pgs n) l i).2 ∧ (imA (pgs n) l i).2.length = 224 :=
  page_byts (nx_ok hn hl hok i) (by have := ptsA_len l i; omega)
theorem putL_byts {n : Nat} {l : List Pt} (hn : 1 ≤ n ∧ n ≤ 4) (hl : l.length ≤ 8 * n) (hok : ∀ p ∈ l, okPt p) (m : Nat) : ∀ q ∈ putL (pgs n) l m, Byts q.2 ∧ q.2.length = 224 := by
  intro q hq
  obtain ⟨i, _, rfl⟩ := List.mem_map.1 hq
  exact im_byts hn hl hok i
theorem lk_put {n : Nat} {l : List Pt} (hn : 1 ≤ n ∧ n ≤ 4) (hl : l.length ≤ 8 * n) (hok : ∀ p ∈ l, okPt p) {i : Nat} (hi : i < n) : lkQ (putL (pgs n) l n) (20 + 2 * (i : Int)) = some (imA (pgs n) l i) := by
  have hlen := putL_len (pgs n) l n
  have e : at' (putL (pgs n) l n) (i : Int) = imA (pgs n) l i := by
    rw [at_nat _ _ (by omega)]; simp [putL]
  rw [← e]
  refine lk_yes ?_ (by omega) (by rw [e]; exact pgs_at hi)
  intro q hq
  unfold putL at hq
  rw [← List.map_take, List.take_range] at hq
  obtain ⟨j, hj, rfl⟩ := List.mem_map.1 hq
  have hj' := List.mem_range.1 hj
  show at' (pgs n) (j : Int) ≠ _
  rw [pgs_at (by omega)]
  omega
theorem pages_step {n : Nat} {l : List Pt} (hn : 1 ≤ n ∧ n ≤ 4) (hl : l.length ≤ 8 * n) (hok : ∀ p ∈ l, okPt p) {i : Nat} (hi : i < n) : lkO (putL (pgs n) l n) (20 + 2 * (i : Int)) = true ∧ rOk (lkP (putL (pgs n) l n) (20 + 2 * (i : Int))) = true ∧ rNx (lkP (putL (pgs n) l n) (20 + 2 * (i : Int))) = nxA (pgs n) i ∧ rPt (lkP (putL (pgs n) l n) (20 + 2 * (i : Int))) = ptsA l i := by
  have h1 := lk_put hn hl hok hi
  have h2 := page_back (nx_ok hn hl hok i) (show (ptsA l i).length ≤ 8 by have := ptsA_len l i; omega) (ptsA_ok hok i)
  unfold lkO lkP
  rw [h1]
  exact ⟨rfl, h2⟩
theorem pages_back {n : Nat} {l : List Pt} (hn : 1 ≤ n ∧ n ≤ 4) (hl : l.length ≤ 8 * n) (hok : ∀ p ∈ l, okPt p) : ∀ (d i : Nat), i + d + 1 = n → getG (lkP (putL (pgs n) l n)) (lkO (putL (pgs n) l n)) (7 - i) (20 + 2 * (i : Int)) ((pgs n).take i) (l.take (8 * i)) = some (pgs n, l) := by
  intro d
  induction d with
  | zero =>
    intro i hi
    obtain ⟨s1, s2, s3, s4⟩ := pages_step hn hl hok (i := i) (by omega)
    rw [show 7 - i = (6 - i) + 1 by omega, gg_e s1 (by rw [List.length_take, pgs_len]; omega) s2 ?_ (by rw [s3]; unfold nxA; rw [if_neg (by rw [pgs_len]; omega)]), s4]
    · rw [pgs_t (by omega), List.take_of_length_le (by rw [pgs_len]; omega)]
      unfold ptsA
      rw [← List.take_add, List.take_of_length_le (by omega)]
    · rw [s4, ptsA_len, List.length_take, List.length_take, pgs_len]; omega
  | succ d ih =>
    intro i hi
    obtain ⟨s1, s2, s3, s4⟩ := pages_step hn hl hok (i := i) (by omega)
    have hnx : nxA (pgs n) i = 20 + 2 * ((i + 1 : Nat) : Int) := by unfold nxA; rw [if_pos (by rw [pgs_len]; omega), pgs_at (by omega)]
    rw [show 7 - i = (6 - i) + 1 by omega, gg_f s1 (by rw [List.length_take, pgs_len]; omega) s2 ?_ (by rw [s3, hnx]; omega), s3, s4, hnx]
    · have h := ih (i + 1) (by omega)
      rw [show 7 - (i + 1) = 6 - i by omega] at h
      rw [pgs_t (by omega)]
      unfold ptsA
      rw [← List.take_add]
      exact h
    · rw [s4, ptsA_len, List.length_take, List.length_take, pgs_len]; omega
theorem pages_all {n : Nat} {l : List Pt} (hn : 1 ≤ n ∧ n ≤ 4) (hl : l.length ≤ 8 * n) (hok : ∀ p ∈ l, okPt p) : getG (lkP (putL (pgs n) l n)) (lkO (putL (pgs n) l n)) 7 20 [] [] = some (pgs n, l) := by
  have h := pages_back hn hl hok (n - 1) 0 (by omega)
  simpa using h
def adA (n : Nat) (l : List Pt) (i : Nat) : List Pt := (l.take i).foldl (adL n) []
theorem adA_s {n : Nat} {l : List Pt} {i : Nat} (h : (i : Int) < l.length) : adA n l (i + 1) = adL n (adA n l i) (at' l (i : Int)) := by
  unfold adA; rw [List.take_add_one, at_some h]; simp
theorem adL_in {n : Nat} {l : List Pt} {p : Pt} : (∀ q ∈ adL n l p, q ∈ l ∨ q = p) ∧ (l.length ≤ 8 * n → (adL n l p).length ≤ 8 * n) := by
  unfold adL
  split
  · exact ⟨fun q h => .inl h, fun h => h⟩
  · split
    · exact ⟨fun q h => .inl h, fun h => h⟩
    · refine ⟨fun q h => by simpa using h, fun h => by simp; omega⟩
theorem adA_ok (n : Nat) (l : List Pt) (hok : ∀ p ∈ l, okPt p) : ∀ i : Nat, (i : Int) ≤ l.length → (∀ p ∈ adA n l i, okPt p) ∧ (adA n l i).length ≤ 8 * n
  | 0, _ => ⟨fun p hp => by simp [adA] at hp, by simp [adA]⟩
  | i + 1, h => by
    obtain ⟨h1, h2⟩ := adA_ok n l hok i (by omega)
    rw [adA_s (by omega)]
    obtain ⟨g1, g2⟩ := adL_in (n := n) (l := adA n l i) (p := at' l (i : Int))
    refine ⟨fun p hp => ?_, g2 h2⟩
    rcases g1 p hp with hq | rfl
    · exact h1 p hq
    · exact at_ok hok (by omega)
end Go.Proofs.Ytmlhekadnplpcaa
