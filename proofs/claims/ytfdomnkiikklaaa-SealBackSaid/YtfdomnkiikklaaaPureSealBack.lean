/- For all bytes, what is sealed is got as it was, and what is got of any bytes is what the reference says. No condition. -/
import Derived.Test.YtfdomnkiikklaaaPAllx13
import Derived.Test.YtfdomnkiikklaaaSealG
namespace Go.Proofs.Ytfdomnkiikklaaa.Pure
open Go.RowKit Go.Proofs.Ytfdomnkiikklaaa.PAll Go.Proofs.Ytfdomnkiikklaaa.Seal Go.Proofs.Ytfdomnkiikklaaa.SealF Go.Proofs.YtfdomnkiikklaaaW.PrintWords Go.Proofs.YtfdomnkiikklaaaW.PrintLast

theorem back_j (l : List Int) (hb : Byt l) (hl : l.length ≤ 2000) (k : Nat) (hk : 10 * l.length + 1 ≤ k) : counterpanelaw02_SealBack.j0 (k + 1) l false = some true := by
  obtain ⟨g1, g2⟩ := get_f l hb (by omega)
  have hw : wrap64 ((l.length : Int) - 4) = (l.length : Int) - 4 := by unfold wrap64; omega
  rw [counterpanelaw02_SealBack.j0, if_neg (by simp), hw]
  by_cases h4 : 4 ≤ l.length
  · have hm : mx ((l.length : Int) - 4) 0 = (l.length : Int) - 4 := by unfold mx; rw [if_neg (by omega)]
    have et : ((l.length : Int) - 4).toNat = l.length - 4 := by omega
    have htb := byt_take hb (l.length - 4)
    have htl : (l.take (l.length - 4)).length = l.length - 4 := by rw [List.length_take]; omega
    have hp := rput_f k (l.take (l.length - 4)) htb (by omega) (by omega)
    have hs := same_f (a := l.take (l.length - 4) ++ q (crc (l.take (l.length - 4)))) (b := l) (byt_append htb (q_byt _)) hb
    have hiff : (l.take (l.length - 4) ++ q (crc (l.take (l.length - 4))) = l) ↔ IsSealed l := by
      constructor
      · intro e
        refine ⟨h4, ?_⟩
        have := congrArg (List.drop (l.length - 4)) e
        rw [List.drop_append_of_le_length (by omega), List.drop_of_length_le (by omega), List.nil_append] at this
        exact this.symm
      · intro hg
        rw [← hg.2, List.take_append_drop]
    by_cases hg : IsSealed l
    · rw [g1 hg, Option.bind_some, if_pos (by omega), hm, if_pos (by omega), if_pos (by omega), et, hp, Option.bind_some, hs, Option.bind_some]
      simp only [hiff, hg, decide_true, BEq.rfl, if_true]
      rw [same_f htb htb, Option.bind_some]
      simp [works_f]
    · rw [g2 hg, Option.bind_some, if_pos (by omega), hm, if_pos (by omega), if_pos (by omega), et, hp, Option.bind_some, hs, Option.bind_some]
      simp [hiff, hg, works_f]
  · rw [g2 (fun hg => h4 hg.1), Option.bind_some, if_neg (by omega)]
    simp [works_f]

theorem SealBack : counterpanelaw02_SealBack.Pure := by
  intro l _ _ hw
  have hb := byt_of hw
  by_cases h : (l.length : Int) > 2000
  · exact ⟨0, by rw [counterpanelaw02_SealBack.f, if_pos h, works_f]; rfl⟩
  · refine ⟨10 * l.length + 2, ?_⟩
    have hp := put_f l hb (by omega)
    have hpb := byt_append hb (q_byt (crc l))
    have hg := (get_f (l ++ q (crc l)) hpb (by simp [q_len]; omega)).1 (put_good l)
    rw [List.length_append, q_len, Nat.add_sub_cancel, List.take_left] at hg
    rw [counterpanelaw02_SealBack.f, if_neg h, hp, Option.bind_some, hg, Option.bind_some, rput_f _ l hb (by omega) (by omega), Option.bind_some, same_f hpb hpb, Option.bind_some, same_f hb hb]
    simp only [decide_true, if_true, Option.bind_some, Bool.not_true]
    exact back_j l hb (by omega) _ (by omega)

end Go.Proofs.Ytfdomnkiikklaaa.Pure
