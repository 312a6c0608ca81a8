/- Walks by the logic of values. -/
import Derived.Test.YtmlhekadnplpcaaKoVb
import Derived.Test.YtmlhekadnplpcaaKoVg
import Derived.Test.YtmlhekadnplpcaaKoVh
import Derived.Test.YtmlhekadnplpcaaKoVi
import Derived.Test.YtmlhekadnplpcaaKoVl
import Derived.Test.YtmlhekadnplpcaaKoVmT
import Derived.Test.YtmlhekadnplpcaaKoVmP
import Derived.Test.YtmlhekadnplpcaaKoVmV
import Derived.Test.YtmlhekadnplpcaaKoVa
namespace Go.Proofs.Ytmlhekadnplpcaa
open Go.Vm
set_option linter.unusedVariables false
set_option linter.unusedSimpArgs false
theorem beB_1 (v : Int) : beB 1 v = [v % 256] := by rw [beB_cons 0 v]; simp [beB]
theorem tk {X : List Int} (hb : Byts X) {m : Nat} (h : m ≤ X.length) : beB m (beN (X.take m)) = X.take m := by
  have h1 := beB_beN (b := X.take m) (bytes_take hb m)
  rw [List.length_take, Nat.min_eq_left h] at h1
  exact h1
theorem pt_back {p : List Int} (hb : Byts p) {i : Nat} (h : 3 + 24 * i + 24 ≤ p.length) : ptB (ptAt p i) = (p.drop (3 + 24 * i)).take 24 := by
  have b0 : Byts (p.drop (3 + 24 * i)) := bytes_drop hb _
  have l0 : (p.drop (3 + 24 * i)).length = p.length - (3 + 24 * i) := List.length_drop
  unfold ptB ptAt
  rw [tk b0 (by omega), tk (bytes_drop b0 4) (by rw [List.length_drop]; omega), tk (bytes_drop (bytes_drop b0 4) 4) (by rw [List.length_drop, List.length_drop]; omega), tk (bytes_drop (bytes_drop (bytes_drop b0 4) 4) 8) (by rw [List.length_drop, List.length_drop, List.length_drop]; omega)]
  rw [show 24 = 4 + (4 + (8 + 8)) from rfl, List.take_add, List.take_add, List.take_add]
  simp
theorem pts_back {p : List Int} (hb : Byts p) (hl : p.length = 224) : ∀ i : Nat, i ≤ 9 → (ptsB p i).flatMap ptB = (p.drop 3).take (24 * i)
  | 0, _ => by simp [ptsB]
  | i + 1, h => by
    have ih := pts_back hb hl i (by omega)
    unfold ptsB at ih ⊢
    rw [List.range_succ, List.map_append, List.flatMap_append, ih, show 24 * (i + 1) = 24 * i + 24 by omega, List.take_add, List.drop_drop]
    congr 1
    simp only [List.map_cons, List.map_nil, List.flatMap_cons, List.flatMap_nil, List.append_nil]
    rw [pt_back hb (by omega)]
theorem read_back {p : List Int} (hb : Byts p) (hl : p.length = 224) (ho : rOk p = true) : padP (pgP (rNx p) (rPt p) (rPt p).length) = p := by
  have hg : rGd p = true := by
    unfold rOk at ho
    cases h : rGd p with
    | true => rfl
    | false => rw [h] at ho; simp at ho
  obtain ⟨h1, h2⟩ := of_decide_eq_true hg
  have h3 := cn_bd hb hl
  have h4 := nx_bd hb hl
  obtain ⟨cn, hcn⟩ : ∃ cn : Nat, (cn : Int) = cnF p := ⟨(cnF p).toNat, by omega⟩
  have e1 : rPt p = ptsB p cn := by unfold rPt; rw [if_pos hg, show (cnF p).toNat = cn by omega]
  have e2 : rNx p = nxF p := by unfold rNx; rw [if_pos hg]
  have e3 : noF (p.drop (3 + 24 * cn)) false = true := by unfold rOk at ho; rw [if_pos hg, show (cnF p).toNat = cn by omega] at ho; exact ho
  have e4 : p.drop (3 + 24 * cn) = List.replicate (224 - (3 + 24 * cn)) 0 := by
    rw [List.eq_replicate_iff]
    refine ⟨by rw [List.length_drop, hl], fun x hx => ?_⟩
    unfold noF at e3
    rw [Bool.not_false, Bool.and_true, List.all_eq_true] at e3
    simpa using e3 x hx
  have t0 := tk hb (m := 1) (by omega)
  have t1 := tk (bytes_drop hb 1) (m := 1) (by rw [List.length_drop]; omega)
  have t2 := tk (bytes_drop (bytes_drop hb 1) 1) (m := 1) (by rw [List.length_drop, List.length_drop]; omega)
  rw [beB_1] at t0 t1 t2
  have q0 : beN (p.take 1) = 82 := h1
  have q1 : beN ((p.drop 1).take 1) = nxF p := rfl
  have q2 : beN (((p.drop 1).drop 1).take 1) = cnF p := rfl
  rw [q0] at t0; rw [q1] at t1; rw [q2, ← hcn] at t2
  have hlen := ptsB_len p cn
  have hp : pgP (nxF p) (ptsB p cn) cn = p.take (3 + 24 * cn) := by
    unfold pgP
    rw [List.take_of_length_le (by omega), pts_back hb hl cn (by omega), hlen]
    rw [show 3 + 24 * cn = 1 + (1 + (1 + 24 * cn)) by omega, List.take_add, List.take_add, List.take_add, ← t0, ← t1, ← t2, List.drop_drop, List.drop_drop]
    have : ((cn : Int)) % 256 = cn := by omega
    rw [this]
    rfl
  rw [e1, e2, hlen, hp]
  unfold padP
  rw [List.length_take, Nat.min_eq_left (by omega), ← e4, List.take_append_drop]
theorem one_none {p : List Int} {oF : Int → Bool} (hn : rNx p = 3) : ∀ (k : Nat) (gs : List Int) (ps : List Pt), getG (fun _ => p) oF k 3 gs ps = none
  | 0, _, _ => rfl
  | k + 1, gs, ps => by
    simp only [getG]
    rw [hn, one_none hn k]
    simp
theorem one_some {p : List Int} {G : List Int} {P : List Pt} (h : getG (fun _ => p) (fun w_ => decide (w_ = 3)) 7 3 [] [] = some (G, P)) : G = [3] ∧ P = rPt p ∧ rOk p = true ∧ rNx p = 0 := by
  by_cases hn : rNx p = 0
  · simp only [getG] at h
    rw [if_pos hn] at h
    cases ho : rOk p with
    | false => rw [ho] at h; simp at h
    | true => rw [ho] at h; simp at h; exact ⟨h.1.symm, h.2.symm, rfl, hn⟩
  · by_cases h3 : rNx p = 3
    · rw [one_none h3] at h; cases h
    · exfalso
      rw [show (7 : Nat) = 5 + 1 + 1 from rfl] at h
      simp only [getG] at h
      rw [if_neg hn] at h
      simp [h3] at h
end Go.Proofs.Ytmlhekadnplpcaa
