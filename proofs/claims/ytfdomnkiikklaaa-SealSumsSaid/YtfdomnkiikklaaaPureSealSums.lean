/- For all bytes the checksum is the one that the reference computes bit by bit, and the closed examples hold. No condition. -/
import Derived.Test.YtfdomnkiikklaaaPAllx9
import Derived.Test.YtfdomnkiikklaaaSealF
namespace Go.Proofs.Ytfdomnkiikklaaa.Pure
open Go.RowKit Go.Proofs.Ytfdomnkiikklaaa.PAll Go.Proofs.Ytfdomnkiikklaaa.Seal Go.Proofs.Ytfdomnkiikklaaa.SealF Go.Proofs.YtfdomnkiikklaaaW.PrintWords Go.Proofs.YtfdomnkiikklaaaW.PrintLast

theorem SealSums : counterpanelaw02_SealSums.Pure := by
  intro l _ _ hw
  have hb := byt_of hw
  by_cases h : (l.length : Int) > 2000
  · exact ⟨0, by rw [counterpanelaw02_SealSums.f, if_pos h, works_f]; rfl⟩
  · refine ⟨10 * l.length + 1, ?_⟩
    rw [counterpanelaw02_SealSums.f, if_neg h, sum_f l hb (by omega), Option.bind_some, ref_f l hb (by omega), Option.bind_some, if_pos rfl, works_f]
    rfl

end Go.Proofs.Ytfdomnkiikklaaa.Pure
