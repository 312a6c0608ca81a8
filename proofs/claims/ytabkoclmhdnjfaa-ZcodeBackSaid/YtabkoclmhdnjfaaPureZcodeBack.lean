/- For all points and places, the place of a point and the point of a place are the ones of the reference, and each undoes the other. No condition. -/
import Derived.Test.YtabkoclmhdnjfaaPAllx18
import Derived.Test.YtabkoclmhdnjfaaZF
namespace Go.Proofs.Ytabkoclmhdnjfaa.Pure
open Go.RowKit Go.Proofs.Ytabkoclmhdnjfaa.PAll Go.Proofs.Ytabkoclmhdnjfaa.Z Go.Proofs.Ytabkoclmhdnjfaa.ZF Go.Proofs.YtabkoclmhdnjfaaW.PrintWords Go.Proofs.YtabkoclmhdnjfaaW.PrintLast

theorem ZcodeBack : counterpanelaw24_ZcodeBack.Pure := by
  intro x y z wx wy wz
  obtain ⟨x, rfl, hx⟩ := nat_u32 wx
  obtain ⟨y, rfl, hy⟩ := nat_u32 wy
  obtain ⟨z, rfl, hz⟩ := nat_u64 wz
  refine ⟨100, ?_⟩
  rw [counterpanelaw24_ZcodeBack.f, point_f z hz, Option.bind_some, ref_point_f 100 z (by omega) hz, Option.bind_some, if_pos rfl, if_pos rfl,
    code_f _ _ (ga32_lt _) (ga32_lt _), Option.bind_some, code_ga hz, if_pos rfl, code_f x y hx hy, Option.bind_some, ref_code_f 100 x y (by omega) hx hy, Option.bind_some,
    counterpanelaw24_ZcodeBack.j0, if_neg (by simp), code_f x y hx hy, Option.bind_some, point_f _ (zc32_lt x y), Option.bind_some, ga_code hx, ga_code' hy, if_pos rfl, if_pos rfl, works_f 99 (by omega), Option.bind_some]

end Go.Proofs.Ytabkoclmhdnjfaa.Pure
