/- Walks by the logic of values. -/
import Derived.Test.YtldlmmpniddbcaaKpWa
import Derived.Test.YtldlmmpniddbcaaKpWb
import Derived.Test.YtldlmmpniddbcaaKpWc
import Derived.Test.YtldlmmpniddbcaaKpVa
import Derived.Test.YtldlmmpniddbcaaKpVb
import Derived.Test.YtldlmmpniddbcaaKpVmP
namespace Go.Proofs.Ytldlmmpniddbcaa
open Go.Vm
set_option linter.unusedVariables false
set_option linter.unusedSimpArgs false
theorem rS_yes {xs : List Int} {m : Nat} (h : m ≤ xs.length) : rS (xs, false) m = (xs.drop m, false) ∧ rdT xs false m = xs.take m := by
  have h1 : rdOK xs false m = true := by unfold rdOK; simp; omega
  refine ⟨?_, ?_⟩
  · unfold rS rdX rdE; simp only []; rw [if_pos h1, h1]; rfl
  · unfold rdT; rw [if_pos h1]; rfl
theorem num_r {v : Int} {m : Nat} (hm : m ≤ 8) (h0 : 0 ≤ v) (h1 : v < 256 ^ m) (r : List Int) : rN (beB m v ++ r, false) m = v ∧ rS (beB m v ++ r, false) m = (r, false) := by
  have hl : (beB m v).length = m := beB_len m v
  obtain ⟨h3, h4⟩ := rS_yes (xs := beB m v ++ r) (m := m) (by rw [List.length_append]; omega)
  refine ⟨?_, ?_⟩
  · unfold rN; simp only []
    rw [h4, List.take_left' hl, low8_id (by omega)]
    exact beN_beB m v h0 h1
  · rw [h3, List.drop_left' hl]
theorem be1 {v : Int} (h : 0 ≤ v ∧ v < 256) : beB 1 v = [v] := by rw [beB_cons]; simp only [beB, Int.pow_zero, Int.ediv_one]; rw [Int.emod_eq_of_lt h.1 h.2]
theorem one_r {v : Int} (h : 0 ≤ v ∧ v < 256) (r : List Int) : rN (v :: r, false) 1 = v ∧ rS (v :: r, false) 1 = (r, false) := by
  have := num_r (v := v) (m := 1) (by omega) h.1 h.2 r
  rw [be1 h] at this; exact this
theorem eight_r {v : Int} (h : U64 v) (r : List Int) : rN (beB 8 v ++ r, false) 8 = v ∧ rS (beB 8 v ++ r, false) 8 = (r, false) := num_r (m := 8) (by omega) h.1 h.2 r
theorem four_r {v : Int} (h : U32 v) (r : List Int) : rN (beB 4 v ++ r, false) 4 = v ∧ rS (beB 4 v ++ r, false) 4 = (r, false) := num_r (m := 4) (by omega) h.1 h.2 r
/-! texts -/
theorem txt_r {v : ByteArray} (hv : v.size < 16) (r : List Int) : txOK (fieldB v 16 ++ r) false 16 = true ∧ txS (fieldB v 16 ++ r) false 16 = v ∧ rdX (fieldB v 16 ++ r) false 16 = r := by
  have hl : (fieldB v 16).length = 16 := fieldB_len hv
  obtain ⟨h3, h4⟩ := rS_yes (xs := fieldB v 16 ++ r) (m := 16) (by rw [List.length_append]; omega)
  have h4' : rdT (fieldB v 16 ++ r) false 16 = fieldB v 16 := by rw [show (16 : Int) = ((16 : Nat) : Int) from rfl, h4, List.take_left' hl]
  have e0 : at' (fieldB v 16) 0 = v.size := rfl
  have e1 : txN (fieldB v 16) = v.size + 1 := by unfold txN; rw [e0]; omega
  have hR : rdOK (fieldB v 16 ++ r) false 16 = true := by unfold rdOK; simp only [Bool.not_false, Bool.true_and, decide_eq_true_eq, List.length_append]; omega
  have hd : (fieldB v 16).drop (v.size + 1) = List.replicate (16 - 1 - v.size) 0 := by
    unfold fieldB
    rw [List.append_assoc, List.singleton_append, List.drop_succ_cons]
    exact List.drop_left' (sB_len v)
  have ht : ((fieldB v 16).take (v.size + 1)).drop 1 = sB v := by
    unfold fieldB
    rw [List.append_assoc, List.singleton_append, List.take_succ_cons, List.drop_succ_cons, List.drop_zero]
    exact List.take_left' (sB_len v)
  have hOK : txOK (fieldB v 16 ++ r) false 16 = true := by
    unfold txOK
    rw [hR, h4', e1, hd, e0, hl]
    simp; omega
  refine ⟨hOK, ?_, ?_⟩
  · unfold txS; rw [if_pos hOK, h4', e1, ht]; exact bS_sB v
  · have := congrArg Prod.fst h3; rw [List.drop_left' hl] at this; exact this
/-! records -/
attribute [local irreducible] Go.Vm.beB Go.Vm.fieldB
theorem rec_r {r : Rc} (hr : okRc r) (hv : r.val.size < 16) (t : List Int) : rrOK (recF r ++ t, false) = true ∧ rrV (recF r ++ t, false) = r ∧ q6 (recF r ++ t, false) = (t, false) := by
  obtain ⟨id, key, x, y, val, gh⟩ := r
  obtain ⟨u1, u2, u3, u4⟩ := hr
  have e0 : recF ⟨id, key, x, y, val, gh⟩ ++ t = beB 8 id ++ (beB 8 key ++ (beB 4 x ++ (beB 4 y ++ ((if gh = true then (1 : Int) else 0) :: (fieldB val 16 ++ t))))) := by
    unfold recF recB; simp only [List.append_assoc, List.singleton_append, List.cons_append, List.nil_append]
  rw [e0]
  obtain ⟨n1, s1⟩ := eight_r u1 (beB 8 key ++ (beB 4 x ++ (beB 4 y ++ ((if gh = true then (1 : Int) else 0) :: (fieldB val 16 ++ t)))))
  obtain ⟨n2, s2⟩ := eight_r u2 (beB 4 x ++ (beB 4 y ++ ((if gh = true then (1 : Int) else 0) :: (fieldB val 16 ++ t))))
  obtain ⟨n3, s3⟩ := four_r u3 (beB 4 y ++ ((if gh = true then (1 : Int) else 0) :: (fieldB val 16 ++ t)))
  obtain ⟨n4, s4⟩ := four_r u4 ((if gh = true then (1 : Int) else 0) :: (fieldB val 16 ++ t))
  obtain ⟨n5, s5⟩ := one_r (v := if gh = true then (1 : Int) else 0) (by cases gh <;> simp) (fieldB val 16 ++ t)
  obtain ⟨x1, x2, x3⟩ := txt_r hv t
  have hq1 := s1
  change Go.Proofs.Ytldlmmpniddbcaa.q1 _ = _ at hq1
  have hq2 := s2
  rw [← hq1] at hq2
  change Go.Proofs.Ytldlmmpniddbcaa.q2 _ = _ at hq2
  have hq3 := s3
  rw [← hq2] at hq3
  change Go.Proofs.Ytldlmmpniddbcaa.q3 _ = _ at hq3
  have hq4 := s4
  rw [← hq3] at hq4
  change Go.Proofs.Ytldlmmpniddbcaa.q4 _ = _ at hq4
  have hq5 := s5
  rw [← hq4] at hq5
  change Go.Proofs.Ytldlmmpniddbcaa.q5 _ = _ at hq5
  refine ⟨?_, ?_, ?_⟩
  · unfold rrOK; rw [hq4, hq5, n5, x1]; cases gh <;> rfl
  · unfold rrV
    rw [hq1, hq2, hq3, hq4, hq5, n1, n2, n3, n4, n5, x2]
    have hg : ((if gh = true then (1 : Int) else 0) == 1) = gh := by cases gh <;> rfl
    rw [hg]
  · unfold q6; rw [hq5, x1, x3]; rfl
end Go.Proofs.Ytldlmmpniddbcaa
