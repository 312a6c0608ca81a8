/- For all bytes and wherever they are cut, the checksum carried on over the second part is that of the whole; no bytes change nothing. No condition. -/
import Derived.Test.YtfdomnkiikklaaaPAllx10
import Derived.Test.YtfdomnkiikklaaaSealF
namespace Go.Proofs.Ytfdomnkiikklaaa.Pure
open Go.RowKit Go.Proofs.Ytfdomnkiikklaaa.PAll Go.Proofs.Ytfdomnkiikklaaa.Seal Go.Proofs.Ytfdomnkiikklaaa.SealF Go.Proofs.YtfdomnkiikklaaaW.PrintWords Go.Proofs.YtfdomnkiikklaaaW.PrintLast

theorem SealParts : counterpanelaw02_SealParts.Pure := by
  intro l a _ _ hw ha
  have hb := byt_of hw
  have h16 : 0 ≤ a ∧ a < 65536 := by
    simp [Lit.wf, IntKind.min, IntKind.max, IntKind.signed, IntKind.bits] at ha
    omega
  by_cases h : (l.length : Int) > 2000
  · rw [counterpanelaw02_SealParts.f, if_pos h, works_f]; rfl
  · have e1 : wrap64 ((l.length : Int) + 1) = (l.length : Int) + 1 := by unfold wrap64; omega
    have e2 : wrap64 a = a := by unfold wrap64; omega
    have h0 : 0 ≤ Int.tmod a ((l.length : Int) + 1) := Int.tmod_nonneg _ h16.1
    have h1 : Int.tmod a ((l.length : Int) + 1) < (l.length : Int) + 1 := Int.tmod_lt_of_pos _ (by omega)
    rw [counterpanelaw02_SealParts.f, if_neg h, e1, e2, if_neg (by omega), if_pos h0, if_pos (by omega)]
    generalize Int.tmod a ((l.length : Int) + 1) = j at h0 h1
    have t1 : (l.take j.toNat).length ≤ 1073741824 := by rw [List.length_take]; omega
    have t2 : (l.drop j.toNat).length ≤ 1073741824 := by rw [List.length_drop]; omega
    rw [sum_f _ (byt_take hb _) t1, Option.bind_some, go_f _ _ (byt_drop hb _) t2, Option.bind_some, sum_f l hb (by omega), Option.bind_some, if_pos, Option.bind_some, go_f _ _ (fun x hx => by cases hx) (by simp), Option.bind_some, Option.bind_some, if_pos, works_f]
    · rfl
    · simp [crc, le, G]
    · simp only [crc, BitVec.not_not]
      rw [← G_append _ _ _ (byt_take hb _), List.take_append_drop]

end Go.Proofs.Ytfdomnkiikklaaa.Pure
