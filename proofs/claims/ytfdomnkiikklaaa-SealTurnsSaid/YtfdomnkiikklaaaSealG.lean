/- What sealing puts behind bytes, and what is got of any bytes: got exactly if the last four are the sum of the others. No condition but that bytes are bytes and that there are at most 2^29 of them. -/
import Derived.Test.YtfdomnkiikklaaaSealF
namespace Go.Proofs.Ytfdomnkiikklaaa.SealF
open Go.RowKit Go.Proofs.Ytfdomnkiikklaaa.PAll Go.Proofs.Ytfdomnkiikklaaa.Seal Go.Proofs.YtfdomnkiikklaaaW.PrintWords Go.Proofs.YtfdomnkiikklaaaW.PrintLast

/-- The four bytes of a sum, the lowest one first. -/
def q (c : BitVec 32) : List Int := [n c % 256, n c / 256 % 256, n c / 65536 % 256, n c / 16777216 % 256]
theorem n_lt (c : BitVec 32) : 0 ≤ n c ∧ n c < 4294967296 := by
  have := c.isLt; simp [n]; omega
theorem q_byt (c : BitVec 32) : Byt (q c) := by
  intro x hx; simp [q] at hx; omega
theorem q_len (c : BitVec 32) : (q c).length = 4 := rfl
theorem q_le (c : BitVec 32) : le (q c) = c.toNat := by
  have h := n_lt c
  have e : (c.toNat : Int) = n c := rfl
  simp only [q, le]
  omega
theorem le_inj : ∀ (a b : List Int), Byt a → Byt b → a.length = b.length → le a = le b → a = b
  | [], [], _, _, _, _ => rfl
  | [], _ :: _, _, _, h, _ => by simp at h
  | _ :: _, [], _, _, h, _ => by simp at h
  | x :: a, y :: b, ha, hb, hl, h => by
    have hx := ha x (by simp)
    have hy := hb y (by simp)
    simp only [le] at h
    have h1 : x = y := by omega
    rw [h1, le_inj a b (fun z hz => ha z (by simp [hz])) (fun z hz => hb z (by simp [hz])) (by simpa using hl) (by omega)]
theorem byt_append {a b : List Int} (ha : Byt a) (hb : Byt b) : Byt (a ++ b) := by
  intro x hx; rcases List.mem_append.1 hx with h | h
  · exact ha x h
  · exact hb x h
theorem put_f (l : List Int) (h : Byt l) (hl : l.length ≤ 536870912) : seal_Put.f l = some (l ++ q (crc l)) := by
  rw [seal_Put.f, sum_f l h (by omega), Option.bind_some, Option.bind_some, if_pos (by simp; omega), Option.bind_some, Option.bind_some, if_pos (by simp; omega)]
  rfl
theorem rput_f (k : Nat) (l : List Int) (h : Byt l) (hl : l.length ≤ 536870912) (hk : 10 * l.length + 1 ≤ k) : counterpaneref02_Put.f k l = some (l ++ q (crc l)) := by
  rw [counterpaneref02_Put.f, at_rounds (g := fun k => counterpaneref02_Sum.f k l) (fun k => counterpaneref02_Sum.mono l k) hk (ref_f l h (by omega)), Option.bind_some, if_pos (by simp; omega), Option.bind_some, Option.bind_some, if_pos (by simp; omega)]
  rfl
theorem four {l : List Int} (h : 4 ≤ l.length) : l.drop (l.length - 4) = [rd l ((l.length : Int) - 4), rd l ((l.length : Int) - 4 + 1), rd l ((l.length : Int) - 4 + 2), rd l ((l.length : Int) - 4 + 3)] := by
  obtain ⟨m, hm⟩ : ∃ m, l.length = m + 4 := ⟨l.length - 4, by omega⟩
  rw [hm, show m + 4 - 4 = m from by omega, List.drop_eq_getElem_cons (by omega), List.drop_eq_getElem_cons (by omega), List.drop_eq_getElem_cons (by omega), List.drop_eq_getElem_cons (by omega), List.drop_of_length_le (by omega)]
  have e : ∀ j : Nat, (hj : m + j < l.length) → l[m + j] = rd l (((m + 4 : Nat) : Int) - 4 + j) := by
    intro j hj
    rw [rd, show (((m + 4 : Nat) : Int) - 4 + j).toNat = m + j from by omega, List.getD_eq_getElem?_getD, List.getElem?_eq_getElem hj]
    rfl
  have e0 := e 0 (by omega)
  have e1 := e 1 (by omega)
  have e2 := e 2 (by omega)
  have e3 := e 3 (by omega)
  simp only [Int.natCast_zero, Int.add_zero, Nat.add_zero] at e0
  rw [e0]
  refine congrArg (List.cons _) ?_
  show [l[m + 1], l[m + 2], l[m + 3]] = _
  rw [e1, e2, e3]
  rfl
/-- Bytes are got exactly if the last four are the sum of the others. -/
def IsSealed (l : List Int) : Prop := 4 ≤ l.length ∧ l.drop (l.length - 4) = q (crc (l.take (l.length - 4)))
theorem get_f (l : List Int) (h : Byt l) (hl : l.length ≤ 536870912) : (IsSealed l → seal_Get.f l = some (l.take (l.length - 4), true)) ∧ (¬ IsSealed l → seal_Get.f l = some ([], false)) := by
  have hw : wrap64 ((l.length : Int) - 4) = (l.length : Int) - 4 := by unfold wrap64; omega
  by_cases h4 : 4 ≤ l.length
  · have w1 : wrap64 ((l.length : Int) - 4 + 1) = (l.length : Int) - 4 + 1 := by unfold wrap64; omega
    have w2 : wrap64 ((l.length : Int) - 4 + 2) = (l.length : Int) - 4 + 2 := by unfold wrap64; omega
    have w3 : wrap64 ((l.length : Int) - 4 + 3) = (l.length : Int) - 4 + 3 := by unfold wrap64; omega
    have et : ((l.length : Int) - 4).toNat = l.length - 4 := by omega
    have hf := four h4
    have tl : (l.take (l.length - 4)).length ≤ 1073741824 := by rw [List.length_take]; omega
    unfold IsSealed
    rw [seal_Get.f]
    simp only [hw, w1, w2, w3]
    rw [if_neg (by omega), if_pos (by omega), if_pos (by omega), et, sum_f _ (byt_take h _) tl, Option.bind_some, if_pos (by omega), hf, q]
    generalize n (crc (l.take (l.length - 4))) = c
    simp only [List.cons.injEq, and_true]
    by_cases c0 : rd l ((l.length : Int) - 4) = c % 256
    · rw [if_pos c0, if_pos (by omega), if_pos (by omega)]
      by_cases c1 : rd l ((l.length : Int) - 4 + 1) = c / 256 % 256
      · rw [if_pos c1, if_pos (by omega), if_pos (by omega)]
        by_cases c2 : rd l ((l.length : Int) - 4 + 2) = c / 65536 % 256
        · rw [if_pos c2, if_pos (by omega), if_pos (by omega)]
          by_cases c3 : rd l ((l.length : Int) - 4 + 3) = c / 16777216 % 256
          · rw [if_pos c3, Option.bind_some, if_pos (by simp; omega)]
            exact ⟨fun _ => rfl, fun hn => absurd ⟨h4, c0, c1, c2, c3⟩ hn⟩
          · rw [if_neg c3]; exact ⟨fun hg => absurd hg.2.2.2.2 c3, fun _ => rfl⟩
        · rw [if_neg c2]; exact ⟨fun hg => absurd hg.2.2.2.1 c2, fun _ => rfl⟩
      · rw [if_neg c1]; exact ⟨fun hg => absurd hg.2.2.1 c1, fun _ => rfl⟩
    · rw [if_neg c0]; exact ⟨fun hg => absurd hg.2.1 c0, fun _ => rfl⟩
  · rw [seal_Get.f, hw, if_pos (by omega)]
    exact ⟨fun hg => absurd hg.1 h4, fun _ => rfl⟩
theorem put_good (l : List Int) : IsSealed (l ++ q (crc l)) := by
  refine ⟨by simp [q_len], ?_⟩
  rw [List.length_append, q_len, Nat.add_sub_cancel, List.drop_left, List.take_left]
theorem map_inj : ∀ {a b : List Int}, Byt a → Byt b → (a.map fun x => UInt8.ofNat x.toNat) = (b.map fun x => UInt8.ofNat x.toNat) → a = b
  | [], [], _, _, _ => rfl
  | [], _ :: _, _, _, h => by simp at h
  | _ :: _, [], _, _, h => by simp at h
  | x :: a, y :: b, ha, hb, h => by
    have hx := ha x (by simp)
    have hy := hb y (by simp)
    rw [List.map_cons, List.map_cons, List.cons.injEq] at h
    have h1 := congrArg UInt8.toNat h.1
    rw [UInt8.toNat_ofNat', UInt8.toNat_ofNat'] at h1
    have h2 : x = y := by omega
    rw [h2, map_inj (fun z hz => ha z (by simp [hz])) (fun z hz => hb z (by simp [hz])) h.2]
theorem str_inj {a b : List Int} (ha : Byt a) (hb : Byt b) (h : (strOfNums a).toList = (strOfNums b).toList) : a = b := by
  rw [Go.ByteArray.toList_eq, Go.ByteArray.toList_eq] at h
  exact map_inj ha hb (by simpa [strOfNums] using h)
theorem same_f {a b : List Int} (ha : Byt a) (hb : Byt b) : counterpaneref01_Same.f a b = some (decide (a = b)) := by
  rw [counterpaneref01_Same.f]
  by_cases h : a = b
  · subst h; simp
  · have hn : ¬ (strOfNums a).toList = (strOfNums b).toList := fun e => h (str_inj ha hb e)
    simp [h, hn]
end Go.Proofs.Ytfdomnkiikklaaa.SealF
