/- For every rectangle and place, the next place that is told is the first one of the rectangle that is not ahead; none is told only if the rectangle has none. No condition but the kinds of the numbers. -/
import Derived.Test.YtabkoclmhdnjfaaPAllx20
import Derived.Test.YtabkoclmhdnjfaaZN
namespace Go.Proofs.Ytabkoclmhdnjfaa.Pure
open Go.RowKit Go.Proofs.Ytabkoclmhdnjfaa.PAll Go.Proofs.Ytabkoclmhdnjfaa.Z Go.Proofs.Ytabkoclmhdnjfaa.ZF Go.Proofs.YtabkoclmhdnjfaaW.PrintWords Go.Proofs.YtabkoclmhdnjfaaW.PrintLast

theorem ZcodeNext_j (x0 y0 x1 y1 z x y n : Nat) (ok b : Bool) (hx : x < 4294967296) (hy : y < 4294967296) (hz : z < 18446744073709551616) (hn : n < 18446744073709551616) (hx1 : x1 < 4294967296) (hy1 : y1 < 4294967296)
    (hp : Post (In x0 y0 x1 y1) z n ok) (hb : b = true → In x0 y0 x1 y1 x y) :
    counterpanelaw24_ZcodeNext.j0 100 z x y n ok b x0 y0 x1 y1 = some true := by
  rw [counterpanelaw24_ZcodeNext.j0, ref_code_f 99 x y (by omega) hx hy, Option.bind_some, works_f 99 (by omega)]
  cases ok with
  | false =>
    have h := hp.2 rfl
    rw [if_neg (by simp), if_pos (by omega)]
    cases b with
    | false => rw [if_neg (by simp)]; rfl
    | true =>
      have := h.2 x y (hb rfl)
      rw [if_pos rfl, if_pos (by omega)]; rfl
  | true =>
    obtain ⟨⟨u, v, hi, e⟩, h1, h2⟩ := hp.1 rfl
    have a := hi.1
    have c := hi.2
    have hu : ga 32 n = u := by rw [e]; exact ga_code (by omega)
    have hv : ga 32 (n / 2) = v := by rw [e]; exact ga_code' (by omega)
    rw [if_pos rfl, ref_point_f 99 n (by omega) hn, Option.bind_some, hu, hv, if_pos (by omega), if_pos (by omega), if_pos (by omega), if_pos (by omega), if_pos (by omega)]
    cases b with
    | false => rw [if_neg (by simp)]; rfl
    | true =>
      rw [if_pos rfl]
      by_cases q : zc 32 x y < z
      · rw [if_pos (by omega)]; rfl
      · have := h2 x y (hb rfl) (by omega)
        rw [if_neg (by omega), if_pos (by omega)]; rfl
theorem ZcodeNext : counterpanelaw24_ZcodeNext.Pure := by
  intro x0 y0 x1 y1 z x y w1 w2 w3 w4 w5 w6 w7
  obtain ⟨x0, rfl, h1⟩ := nat_u32 w1
  obtain ⟨y0, rfl, h2⟩ := nat_u32 w2
  obtain ⟨x1, rfl, h3⟩ := nat_u32 w3
  obtain ⟨y1, rfl, h4⟩ := nat_u32 w4
  obtain ⟨z, rfl, h5⟩ := nat_u64 w5
  obtain ⟨x, rfl, h6⟩ := nat_u32 w6
  obtain ⟨y, rfl, h7⟩ := nat_u32 w7
  obtain ⟨n, ok, e, p⟩ := next_f 100 x0 y0 x1 y1 z (by omega) h1 h2 h3 h4 h5
  have hn : n < 18446744073709551616 := by
    cases ok with
    | false => rw [(p.2 rfl).1]; decide
    | true =>
      obtain ⟨⟨u, v, hi, e⟩, _⟩ := p.1 rfl
      rw [e]; exact zc32_lt u v
  refine ⟨100, ?_⟩
  have go (b : Bool) := ZcodeNext_j x0 y0 x1 y1 z x y n ok b h6 h7 h5 hn h3 h4 p
  rw [counterpanelaw24_ZcodeNext.f, e, Option.bind_some]
  by_cases c1 : (x0 : Int) ≤ x
  · rw [if_pos c1]
    by_cases c2 : (x : Int) ≤ x1
    · rw [if_pos c2]
      by_cases c3 : (y0 : Int) ≤ y
      · rw [if_pos c3]
        refine go _ fun h => ?_
        have := of_decide_eq_true h
        exact ⟨⟨by omega, by omega⟩, by omega, by omega⟩
      · rw [if_neg c3]; exact go _ (by simp)
    · rw [if_neg c2]; exact go _ (by simp)
  · rw [if_neg c1]; exact go _ (by simp)

end Go.Proofs.Ytabkoclmhdnjfaa.Pure
