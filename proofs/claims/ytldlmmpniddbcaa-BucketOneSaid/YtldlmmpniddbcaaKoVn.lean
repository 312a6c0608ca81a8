/- Walks by the logic of values. -/
import Derived.Test.YtldlmmpniddbcaaKoWa
import Derived.Test.YtldlmmpniddbcaaKoWb
import Derived.Test.YtldlmmpniddbcaaKoWc
import Derived.Test.YtldlmmpniddbcaaKoVa
import Derived.Test.YtldlmmpniddbcaaKoVb
import Derived.Test.YtldlmmpniddbcaaKoVmP
namespace Go.Proofs.Ytldlmmpniddbcaa
open Go.Vm
set_option linter.unusedVariables false
set_option linter.unusedSimpArgs false
theorem rN_1 {s : List Int × Bool} (h : okS s) : 0 ≤ rN s 1 ∧ rN s 1 < 256 := rN_lt1 h

theorem rS_no {s : List Int × Bool} {m : Nat} (h : (rS s m).2 = false) : s.2 = false ∧ m ≤ s.1.length ∧ rS s m = (s.1.drop m, false) ∧ rdT s.1 s.2 m = s.1.take m := by
  have h1 : rdOK s.1 s.2 m = true := by
    have h' : rdE s.1 s.2 m = false := h
    unfold rdE at h'; simpa using h'
  have h2 := h1
  unfold rdOK at h2
  simp only [Bool.and_eq_true, Bool.not_eq_true', decide_eq_true_eq] at h2
  refine ⟨h2.1, by omega, ?_, ?_⟩
  · unfold rS rdX rdE; rw [if_pos h1, h1]; rfl
  · unfold rdT; rw [if_pos h1]; rfl
theorem num_s {s : List Int × Bool} (hs : okS s) {m : Nat} (hm : m ≤ 8) (h : (rS s m).2 = false) : s.2 = false ∧ s.1 = beB m (rN s m) ++ (rS s m).1 := by
  obtain ⟨h1, h2, h3, h4⟩ := rS_no h
  refine ⟨h1, ?_⟩
  have hl : (s.1.take m).length = m := by rw [List.length_take]; omega
  unfold rN
  rw [h3, h4, low8_id (by omega)]
  have := beB_beN (b := s.1.take m) (bytes_take hs.1 m)
  rw [hl] at this
  rw [this, List.take_append_drop]
theorem be1 {v : Int} (h : 0 ≤ v ∧ v < 256) : beB 1 v = [v] := by rw [beB_cons]; simp only [beB, Int.pow_zero, Int.ediv_one]; rw [Int.emod_eq_of_lt h.1 h.2]
theorem one_s {s : List Int × Bool} (hs : okS s) (h : (rS s 1).2 = false) : s.2 = false ∧ s.1 = rN s 1 :: (rS s 1).1 := by
  obtain ⟨h1, h2⟩ := num_s hs (m := 1) (by omega) h
  refine ⟨h1, ?_⟩
  rw [show ((1 : Nat) : Int) = 1 from rfl, be1 (rN_1 hs)] at h2
  exact h2
theorem eight_s {s : List Int × Bool} (hs : okS s) (h : (rS s 8).2 = false) : s.2 = false ∧ s.1 = beB 8 (rN s 8) ++ (rS s 8).1 := num_s hs (m := 8) (by omega) h
theorem four_s {s : List Int × Bool} (hs : okS s) (h : (rS s 4).2 = false) : s.2 = false ∧ s.1 = beB 4 (rN s 4) ++ (rS s 4).1 := num_s hs (m := 4) (by omega) h
theorem rN_8 {s : List Int × Bool} (h : okS s) : U64 (rN s 8) := rN_lt h 8 (by omega)
theorem rN_4 {s : List Int × Bool} (h : okS s) : U32 (rN s 4) := rN_lt h 4 (by omega)
/-! texts -/
theorem all0 {l : List Int} (h : l.all (· == 0) = true) : l = List.replicate l.length 0 := List.eq_replicate_iff.2 ⟨rfl, fun x hx => by rw [List.all_eq_true] at h; simpa using h x hx⟩
theorem txt_s {s : List Int × Bool} (hs : okS s) (h : txOK s.1 s.2 16 = true) : s.2 = false ∧ s.1 = fieldB (txS s.1 s.2 16) 16 ++ rdX s.1 s.2 16 ∧ (txS s.1 s.2 16).size < 16 := by
  have h0 := h
  unfold txOK at h0
  simp only [Bool.and_eq_true, decide_eq_true_eq] at h0
  obtain ⟨⟨h1, h2, h3⟩, h4⟩ := h0
  have hE : (rS s (16 : Nat)).2 = false := by show rdE s.1 s.2 16 = false; unfold rdE; rw [h1]; rfl
  obtain ⟨k1, k2, k3, k4⟩ := rS_no hE
  have k4' : rdT s.1 s.2 16 = s.1.take 16 := k4
  have hX : rdX s.1 s.2 16 = s.1.drop 16 := congrArg Prod.fst k3
  have hS : txS s.1 s.2 16 = bS (((rdT s.1 s.2 16).take (txN (rdT s.1 s.2 16))).drop 1) := if_pos h
  have hT : Byts (rdT s.1 s.2 16) := rdT_bytes hs.1 _ _
  have hl : (rdT s.1 s.2 16).length = 16 := by rw [k4', List.length_take]; omega
  have hb0 := at_any hT 0
  generalize hTe : rdT s.1 s.2 16 = T at *
  refine ⟨k1, ?_, ?_⟩
  · rw [hX]
    conv => lhs; rw [← List.take_append_drop 16 s.1, ← k4']
    congr 1
    rw [hS]
    have hl2 : ((T.take (txN T)).drop 1).length = (at' T 0).toNat := by rw [List.length_drop, List.length_take]; unfold txN; omega
    have hb2 : Byts ((T.take (txN T)).drop 1) := bytes_drop (bytes_take hT _) _
    unfold fieldB
    rw [sB_bS hb2, bS_size, hl2]
    have hz := all0 h4
    have hz2 : (T.drop (txN T)).length = 16 - 1 - (at' T 0).toNat := by rw [List.length_drop, hl]; unfold txN; omega
    rw [hz2] at hz
    rw [← hz]
    match T, hl with
    | x :: T', _ =>
      have e0 : at' (x :: T') 0 = x := rfl
      rw [e0] at hb0 ⊢
      have e1 : txN (x :: T') = x.toNat + 1 := by unfold txN; rw [e0]; omega
      rw [e1]
      simp only [List.take_succ_cons, List.drop_succ_cons, List.drop_zero, List.cons_append, List.nil_append, List.take_append_drop]
      rw [Int.toNat_of_nonneg hb0.1]
  · rw [hS, bS_size, List.length_drop, List.length_take]; unfold txN; omega
/-! records -/
theorem rec_s {s : List Int × Bool} (hs : okS s) (h : rrOK s = true) : s.2 = false ∧ s.1 = recF (rrV s) ++ (q6 s).1 ∧ (q6 s).2 = false ∧ okRc (rrV s) ∧ (rrV s).val.size < 16 := by
  unfold rrOK at h
  rw [Bool.and_eq_true, decide_eq_true_eq] at h
  have o1 : okS (q1 s) := okS_rS hs 8
  have o2 : okS (q2 s) := okS_rS o1 8
  have o3 : okS (q3 s) := okS_rS o2 4
  have o4 : okS (q4 s) := okS_rS o3 4
  have o5 : okS (q5 s) := okS_rS o4 1
  obtain ⟨t1, t2, t3⟩ := txt_s o5 h.2
  obtain ⟨a4, b4⟩ := one_s o4 t1
  obtain ⟨a3, b3⟩ := four_s o3 a4
  obtain ⟨a2, b2⟩ := four_s o2 a3
  obtain ⟨a1, b1⟩ := eight_s o1 a2
  obtain ⟨a0, b0⟩ := eight_s hs a1
  have hg : (if (rrV s).gh = true then (1 : Int) else 0) = rN (q4 s) 1 := by
    have h0 := (rN_1 o4).1
    have h1 := h.1
    by_cases he : rN (q4 s) 1 = 1
    · rw [if_pos (by show (rN (q4 s) 1 == 1) = true; rw [he]; rfl), he]
    · rw [if_neg (by show ¬ (rN (q4 s) 1 == 1) = true; simpa using he)]; omega
  refine ⟨a0, ?_, ?_, ⟨rN_8 hs, rN_8 o1, rN_4 o2, rN_4 o3⟩, t3⟩
  · unfold recF recB
    rw [hg]
    show s.1 = (beB 8 (rN s 8) ++ beB 8 (rN (q1 s) 8) ++ beB 4 (rN (q2 s) 4) ++ beB 4 (rN (q3 s) 4) ++ [rN (q4 s) 1] ++ fieldB (txS (q5 s).1 (q5 s).2 16) 16) ++ rdX (q5 s).1 (q5 s).2 16
    simp only [List.append_assoc]
    rw [← t2, List.singleton_append, show (q5 s).1 = (rS (q4 s) 1).1 from rfl, ← b4, show (q4 s).1 = (rS (q3 s) 4).1 from rfl, ← b3, show (q3 s).1 = (rS (q2 s) 4).1 from rfl, ← b2, show (q2 s).1 = (rS (q1 s) 8).1 from rfl, ← b1]
    exact b0
  · show (!txOK (q5 s).1 (q5 s).2 16) = false
    rw [h.2]; rfl
attribute [local irreducible] Go.Vm.beB Go.Vm.fieldB
end Go.Proofs.Ytldlmmpniddbcaa
