/- For a small rectangle, the count of the places ahead of one is the number of its points with smaller places, up to the limit. No condition. -/
import Derived.Test.YtabkoclmhdnjfaaPAllx21
import Derived.Test.YtabkoclmhdnjfaaZD
namespace Go.Proofs.Ytabkoclmhdnjfaa.Pure
open Go.RowKit Go.Proofs.Ytabkoclmhdnjfaa.PAll Go.Proofs.Ytabkoclmhdnjfaa.Z Go.Proofs.Ytabkoclmhdnjfaa.ZF Go.Proofs.YtabkoclmhdnjfaaW.PrintWords Go.Proofs.YtabkoclmhdnjfaaW.PrintLast
attribute [local irreducible] zc cnt

abbrev below (t : Nat) : Nat → Bool := fun c => decide (c < t)
theorem row_add (p : Nat → Bool) (x y m : Nat) : rowc p x y (m + 1) = rowc p x y m + (if p (zc 32 x (y + m)) = true then 1 else 0) := rfl
theorem grid_add (p : Nat → Bool) (x y h m : Nat) : gridc p x y h (m + 1) = gridc p x y h m + rowc p (x + m) y h := rfl
theorem rowc_le (p : Nat → Bool) (x y m : Nat) : rowc p x y m ≤ m := by
  have := rowc_mono p (fun _ => true) x y m fun _ _ => rfl
  rw [rowc_all] at this; exact this
theorem plus_one (n : Nat) (h : n ≤ 1000) : wrap64 ((n : Int) + 1) = ((n + 1 : Nat) : Int) := by rw [wrap64_in _ (by omega)]; omega
theorem small (w h : Nat) (hw : w ≤ 7) (hh : h ≤ 7) : (w + 1) * (h + 1) ≤ 64 := Nat.mul_le_mul (n₂ := 8) (m₂ := 8) (by omega) (by omega)

theorem inner (x y w h z most : Nat) (hw : w ≤ 7) (hh : h ≤ 7) (hx : x + w < 4294967296) (hy : y + h < 4294967296) (hz : z < 18446744073709551616) (i : Nat) (hi : i ≤ w) (e : Nat) :
    ∀ (k m n : Nat), m + e = h + 1 → n = gridc (below z) x y (h + 1) i + rowc (below z) (x + i) y m → 40 + e + 1 ≤ k →
    ∃ k' n' : Nat, k ≤ k' + e + 1 ∧ n' = gridc (below z) x y (h + 1) (i + 1) ∧
      counterpanelaw24_ZcodeCounts.l1 k x y z most w h n i m x y ((x + w : Nat) : Int) ((y + h : Nat) : Int) = counterpanelaw24_ZcodeCounts.l0 k' x y z most w h n' ((i + 1 : Nat) : Int) x y ((x + w : Nat) : Int) ((y + h : Nat) : Int) := by
  induction e with
  | zero =>
    intro k m n hm hn hk
    obtain ⟨k, rfl⟩ : ∃ j, k = j + 1 := ⟨k - 1, by omega⟩
    refine ⟨k, n, by omega, ?_, ?_⟩
    · rw [hn, grid_add, show m = h + 1 by omega]
    · have e1 : (i : Int) + 1 = ((i + 1 : Nat) : Int) := by omega
      have e2 : ((i : Int) + 1) % 4294967296 = ((i + 1 : Nat) : Int) := by omega
      rw [counterpanelaw24_ZcodeCounts.l1, if_neg (by omega), e2]
  | succ e ih =>
    intro k m n hm hn hk
    obtain ⟨k, rfl⟩ : ∃ j, k = j + 1 := ⟨k - 1, by omega⟩
    have b1 := gridc_le (below z) x y (h + 1) i
    have b2 := rowc_le (below z) (x + i) y m
    have b3 : i * (h + 1) ≤ 8 * 8 := Nat.mul_le_mul (by omega) (by omega)
    have e1 : ((x : Int) + i) % 4294967296 = ((x + i : Nat) : Int) := by omega
    have e2 : ((y : Int) + m) % 4294967296 = ((y + m : Nat) : Int) := by omega
    have e3 : ((m : Int) + 1) % 4294967296 = ((m + 1 : Nat) : Int) := by omega
    have e4 := plus_one n (by omega)
    rw [counterpanelaw24_ZcodeCounts.l1, if_pos (by omega), e1, e2, ref_code_f k (x + i) (y + m) (by omega) (by omega) (by omega), Option.bind_some, e3, e4]
    clear e1 e2 e3 e4
    by_cases c : zc 32 (x + i) (y + m) < z
    · rw [if_pos (by omega)]
      obtain ⟨k', n', q1, q2, q3⟩ := ih k (m + 1) (n + 1) (by omega) (by rw [row_add, if_pos (decide_eq_true c), hn]; omega) (by omega)
      exact ⟨k', n', by omega, q2, q3⟩
    · rw [if_neg (by omega)]
      obtain ⟨k', n', q1, q2, q3⟩ := ih k (m + 1) n (by omega) (by rw [row_add, if_neg (by simpa using c), hn]; rfl) (by omega)
      exact ⟨k', n', by omega, q2, q3⟩
theorem outer (x y w h z most : Nat) (hw : w ≤ 7) (hh : h ≤ 7) (hx : x + w < 4294967296) (hy : y + h < 4294967296) (hz : z < 18446744073709551616) (hm : most < 9223372036854775808) (e : Nat) :
    ∀ (k i n : Nat), i + e = w + 1 → n = gridc (below z) x y (h + 1) i → 10 * e + 300 ≤ k →
    counterpanelaw24_ZcodeCounts.l0 k x y z most w h n i x y ((x + w : Nat) : Int) ((y + h : Nat) : Int) = some true := by
  induction e with
  | zero =>
    intro k i n hi hn hk
    obtain ⟨k, rfl⟩ : ∃ j, k = j + 1 := ⟨k - 1, by omega⟩
    have sm := small w h hw hh
    have hn' : n = cnt x y (w + 1) (h + 1) z := by
      rw [hn, show i = w + 1 by omega]; unfold cnt; rfl
    rw [counterpanelaw24_ZcodeCounts.l0, if_neg (by omega), count_f k x y w h z most hx hy hz hm (by omega) (by omega), Option.bind_some, ← hn', works_f k (by omega)]
    by_cases c : (n : Int) > most
    · rw [if_pos c, if_pos (by omega)]; rfl
    · rw [if_neg c, Option.bind_some, if_pos (by omega)]; rfl
  | succ e ih =>
    intro k i n hi hn hk
    obtain ⟨k, rfl⟩ : ∃ j, k = j + 1 := ⟨k - 1, by omega⟩
    rw [counterpanelaw24_ZcodeCounts.l0, if_pos (by omega)]
    obtain ⟨k', n', q1, q2, q3⟩ := inner x y w h z most hw hh hx hy hz i (by omega) (h + 1) k 0 n (by omega) (by rw [hn]; rfl) (by omega)
    have q4 : ((0 : Nat) : Int) = 0 := rfl
    rw [q4] at q3
    rw [q3]
    exact ih k' (i + 1) n' (by omega) q2 (by omega)
theorem tmod8 (a : Int) (h : (Lit.int .u8 a).wf = true) : ∃ w : Nat, cvt .u32 (Int.tmod a 8) = w ∧ w ≤ 7 := by
  simp [Lit.wf, IntKind.min, IntKind.max, IntKind.signed, IntKind.bits] at h
  rw [Int.tmod_eq_emod_of_nonneg (by omega)]
  exact ⟨(a % 8).toNat, by simp only [cvt]; omega, by omega⟩
theorem ZcodeCounts : counterpanelaw24_ZcodeCounts.Pure := by
  intro x y w h z most wx wy hw hh wz hm
  obtain ⟨x, rfl, hx⟩ := nat_u32 wx
  obtain ⟨y, rfl, hy⟩ := nat_u32 wy
  obtain ⟨z, rfl, hz⟩ := nat_u64 wz
  obtain ⟨w', ew, hw⟩ := tmod8 w hw
  obtain ⟨h', eh, hh⟩ := tmod8 h hh
  simp [Lit.wf, IntKind.min, IntKind.max, IntKind.signed, IntKind.bits] at hm
  refine ⟨500, ?_⟩
  rw [counterpanelaw24_ZcodeCounts.f, ew, eh]
  by_cases c1 : (x : Int) > 4294967295 - w'
  · rw [if_pos c1, counterpanelaw24_ZcodeCounts.j0, if_pos rfl, works_f 499 (by omega)]; rfl
  rw [if_neg c1]
  by_cases c2 : (y : Int) > 4294967295 - h'
  · rw [if_pos c2, counterpanelaw24_ZcodeCounts.j0, if_pos rfl, works_f 499 (by omega)]; rfl
  rw [if_neg c2, counterpanelaw24_ZcodeCounts.j0]
  by_cases c3 : most < 0
  · rw [if_pos (decide_eq_true c3), works_f 499 (by omega)]; rfl
  rw [if_neg (by simpa using c3)]
  obtain ⟨m, rfl⟩ : ∃ m : Nat, most = m := ⟨most.toNat, by omega⟩
  have e1 : ((x : Int) + w') % 4294967296 = ((x + w' : Nat) : Int) := by omega
  have e2 : ((y : Int) + h') % 4294967296 = ((y + h' : Nat) : Int) := by omega
  rw [e1, e2]
  clear e1 e2
  exact outer x y w' h' z m hw hh (by omega) (by omega) hz (by omega) (w' + 1) 499 0 0 (by omega) rfl (by omega)

end Go.Proofs.Ytabkoclmhdnjfaa.Pure
