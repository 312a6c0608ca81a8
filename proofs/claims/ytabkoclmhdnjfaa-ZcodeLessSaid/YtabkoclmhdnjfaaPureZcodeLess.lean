/- For all points, who comes ahead is told as by the places of the reference, and a point that is no greater either way has no greater place. No condition. -/
import Derived.Test.YtabkoclmhdnjfaaPAllx19
import Derived.Test.YtabkoclmhdnjfaaZF
namespace Go.Proofs.Ytabkoclmhdnjfaa.Pure
open Go.RowKit Go.Proofs.Ytabkoclmhdnjfaa.PAll Go.Proofs.Ytabkoclmhdnjfaa.Z Go.Proofs.Ytabkoclmhdnjfaa.ZF Go.Proofs.YtabkoclmhdnjfaaW.PrintWords Go.Proofs.YtabkoclmhdnjfaaW.PrintLast

theorem ZcodeLess : counterpanelaw24_ZcodeLess.Pure := by
  intro ax ay bx b w1 w2 w3 w4
  obtain ⟨ax, rfl, h1⟩ := nat_u32 w1
  obtain ⟨ay, rfl, h2⟩ := nat_u32 w2
  obtain ⟨bx, rfl, h3⟩ := nat_u32 w3
  obtain ⟨b, rfl, h4⟩ := nat_u32 w4
  refine ⟨100, ?_⟩
  have e : (decide (zc 32 ax ay < zc 32 bx b) == decide (((zc 32 ax ay : Nat) : Int) < ((zc 32 bx b : Nat) : Int))) = true := by simp
  rw [counterpanelaw24_ZcodeLess.f, ref_code_f 100 ax ay (by omega) h1 h2, Option.bind_some, ref_code_f 100 bx b (by omega) h3 h4, Option.bind_some, less_f ax ay bx b h1 h2 h3 h4, Option.bind_some, if_pos e, works_f 100 (by omega), Option.bind_some]
  by_cases c1 : (ax : Int) > bx
  · rw [if_pos c1]
  · rw [if_neg c1]
    by_cases c2 : (ay : Int) > b
    · rw [if_pos c2]
    · rw [if_neg c2]
      have := zc_mono 32 ax ay bx b (by omega) (by omega) h3 h4
      rw [if_pos (by omega)]

end Go.Proofs.Ytabkoclmhdnjfaa.Pure
