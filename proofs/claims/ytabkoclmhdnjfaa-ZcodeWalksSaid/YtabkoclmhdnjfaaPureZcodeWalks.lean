/- From the first place on, going from one place of a small rectangle to the next one behind it meets all its points, each once, by rising places. No condition. -/
import Derived.Test.YtabkoclmhdnjfaaPAllx22
import Derived.Test.YtabkoclmhdnjfaaZC
namespace Go.Proofs.Ytabkoclmhdnjfaa.Pure
open Go.RowKit Go.Proofs.Ytabkoclmhdnjfaa.PAll Go.Proofs.Ytabkoclmhdnjfaa.Z Go.Proofs.Ytabkoclmhdnjfaa.ZF Go.Proofs.YtabkoclmhdnjfaaW.PrintWords Go.Proofs.YtabkoclmhdnjfaaW.PrintLast
attribute [local irreducible] zc cnt

theorem plus_one (n : Nat) (h : n ≤ 1000) : wrap64 ((n : Int) + 1) = ((n + 1 : Nat) : Int) := by rw [wrap64_in _ (by omega)]; omega
theorem small6 (w h : Nat) (hw : w ≤ 5) (hh : h ≤ 5) : (w + 1) * (h + 1) ≤ 36 := Nat.mul_le_mul (n₂ := 6) (m₂ := 6) (by omega) (by omega)
theorem area (w h : Nat) (hw : w ≤ 5) (hh : h ≤ 5) : ((((w : Int) + 1) % 4294967296) * (((h : Int) + 1) % 4294967296)) % 4294967296 = (((w + 1) * (h + 1) : Nat) : Int) := by
  have := small6 w h hw hh
  have e1 : ((w : Int) + 1) % 4294967296 = ((w + 1 : Nat) : Int) := by omega
  have e2 : ((h : Int) + 1) % 4294967296 = ((h + 1 : Nat) : Int) := by omega
  rw [e1, e2]
  have e3 : ((w + 1 : Nat) : Int) * ((h + 1 : Nat) : Int) = (((w + 1) * (h + 1) : Nat) : Int) := by norm_cast
  rw [e3]
  generalize (w + 1) * (h + 1) = q at *
  omega
theorem walk_l (x y w h : Nat) (hw : w ≤ 5) (hh : h ≤ 5) (hx : x + w < 4294967296) (hy : y + h < 4294967296) (d : Nat) :
    ∀ n t k : Nat, n + d = (w + 1) * (h + 1) → n = cnt x y (w + 1) (h + 1) t → t < 18446744073709551616 → 2 * d + 120 ≤ k →
    counterpanelaw24_ZcodeWalks.l0 k x y w h n t x y ((x + w : Nat) : Int) ((y + h : Nat) : Int) = some true := by
  have sm := small6 w h hw hh
  induction d with
  | zero =>
    intro n t k hd hn ht hk
    obtain ⟨k, rfl⟩ : ∃ m, k = m + 1 := ⟨k - 1, by omega⟩
    obtain ⟨nx, ok, e, p⟩ := next_f k x y (x + w) (y + h) t (by omega) (by omega) (by omega) hx hy ht
    rw [counterpanelaw24_ZcodeWalks.l0, if_pos (by omega), e, Option.bind_some]
    cases ok with
    | false =>
      rw [if_neg (by simp), area w h hw hh, if_pos (by omega), works_f k (by omega)]; rfl
    | true =>
      exfalso
      have := cnt_next x y w h t nx hx hy p
      have := cnt_le x y (w + 1) (h + 1) (nx + 1)
      omega
  | succ d ih =>
    intro n t k hd hn ht hk
    obtain ⟨k, rfl⟩ : ∃ m, k = m + 1 := ⟨k - 1, by omega⟩
    obtain ⟨nx, ok, e, p⟩ := next_f k x y (x + w) (y + h) t (by omega) (by omega) (by omega) hx hy ht
    rw [counterpanelaw24_ZcodeWalks.l0, if_pos (by omega), e, Option.bind_some]
    cases ok with
    | false =>
      exfalso
      have := cnt_full x y (w + 1) (h + 1) t fun i k hi hk => (p.2 rfl).2 (x + i) (y + k) (in_grid (x := x) (y := y) (W := w) (H := h) (i := i) (k := k) hi hk)
      omega
    | true =>
      obtain ⟨⟨u, v, hi, hnx⟩, hz, hmin⟩ := p.1 rfl
      have hu : u < 4294967296 := by have := hi.1; omega
      have hv : v < 4294967296 := by have := hi.2; omega
      have hlt : nx < 18446744073709551616 := by rw [hnx]; exact zc32_lt u v
      have g1 : ga 32 nx = u := by rw [hnx]; exact ga_code hu
      have g2 : ga 32 (nx / 2) = v := by rw [hnx]; exact ga_code' hv
      have hi1 := hi.1
      have hi2 := hi.2
      have e1 : ((x : Int) + w) % 4294967296 = ((x + w : Nat) : Int) := by omega
      have e2 : ((y : Int) + h) % 4294967296 = ((y + h : Nat) : Int) := by omega
      obtain ⟨k, rfl⟩ : ∃ m, k = m + 1 := ⟨k - 1, by omega⟩
      have e4 := plus_one n (by omega)
      rw [if_pos rfl, ref_point_f (k + 1) nx (by omega) hlt, Option.bind_some, g1, g2, if_neg (by clear e1 e2 e4; omega), if_neg (by clear e1 e2 e4; omega), e1, if_neg (by clear e1 e2 e4; omega), if_neg (by clear e1 e2 e4; omega), e2,
        counterpanelaw24_ZcodeWalks.j2, if_neg (by clear e1 e2 e4; simp; omega), e4]
      clear e1 e2 e4
      have more := cnt_next x y w h t nx hx hy p
      have le := cnt_le x y (w + 1) (h + 1) (nx + 1)
      by_cases c : nx = 18446744073709551615
      · have full := cnt_full x y (w + 1) (h + 1) (nx + 1) fun i k _ _ => by
          have := zc32_lt (x + i) (y + k)
          omega
        rw [if_pos (by omega), area w h hw hh, if_pos (by omega), works_f k (by omega)]; rfl
      · have e1 : IntKind.u64.wrap ((nx : Int) + 1) = ((nx + 1 : Nat) : Int) := by rw [IntKind.wrap_u64]; omega
        rw [if_neg (by clear e1; omega), e1]
        clear e1
        exact ih (n + 1) (nx + 1) k (by omega) (by rw [more, ← hn]) (by omega) (by omega)
theorem tmod6 (a : Int) (h : (Lit.int .u8 a).wf = true) : ∃ w : Nat, cvt .u32 (Int.tmod a 6) = w ∧ w ≤ 5 := by
  simp [Lit.wf, IntKind.min, IntKind.max, IntKind.signed, IntKind.bits] at h
  rw [Int.tmod_eq_emod_of_nonneg (by omega)]
  exact ⟨(a % 6).toNat, by simp only [cvt]; omega, by omega⟩
theorem ZcodeWalks : counterpanelaw24_ZcodeWalks.Pure := by
  intro x y w h wx wy hw hh
  obtain ⟨x, rfl, hx⟩ := nat_u32 wx
  obtain ⟨y, rfl, hy⟩ := nat_u32 wy
  obtain ⟨w', ew, hw⟩ := tmod6 w hw
  obtain ⟨h', eh, hh⟩ := tmod6 h hh
  refine ⟨500, ?_⟩
  rw [counterpanelaw24_ZcodeWalks.f, ew, eh]
  by_cases c1 : (x : Int) > 4294967295 - w'
  · rw [if_pos c1, counterpanelaw24_ZcodeWalks.j0, if_pos rfl, works_f 499 (by omega)]; rfl
  rw [if_neg c1, counterpanelaw24_ZcodeWalks.j0]
  by_cases c2 : (y : Int) > 4294967295 - h'
  · rw [if_pos (decide_eq_true c2), works_f 499 (by omega)]; rfl
  rw [if_neg (by simpa using c2)]
  have e1 : ((x : Int) + w') % 4294967296 = ((x + w' : Nat) : Int) := by omega
  have e2 : ((y : Int) + h') % 4294967296 = ((y + h' : Nat) : Int) := by omega
  rw [e1, e2]
  clear e1 e2
  have sm := small6 w' h' hw hh
  exact walk_l x y w' h' hw hh (by omega) (by omega) ((w' + 1) * (h' + 1)) 0 0 499 (by omega) (cnt_zero _ _ _ _).symm (by omega) (by omega)

end Go.Proofs.Ytabkoclmhdnjfaa.Pure
