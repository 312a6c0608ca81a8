/- The loop that counts the places of a rectangle by going from one to the next. No condition but the sizes that the theorems name. -/
import Derived.Test.YtabkoclmhdnjfaaZC
namespace Go.Proofs.Ytabkoclmhdnjfaa.ZF
open Go.RowKit Go.Proofs.Ytabkoclmhdnjfaa.PAll Go.Proofs.Ytabkoclmhdnjfaa.Z Go.Proofs.YtabkoclmhdnjfaaW.PrintWords Go.Proofs.YtabkoclmhdnjfaaW.PrintLast Go.Proofs.YtabkoclmhdnjfaaW.PrintMore

attribute [local irreducible] zc cnt
/-! the loop that counts -/
theorem count_l (x y w h z most : Nat) (hx : x + w < 4294967296) (hy : y + h < 4294967296) (hz : z < 18446744073709551616) (hm : most < 9223372036854775808) (hwh : (w + 1) * (h + 1) ≤ 1000) (d : Nat) :
    ∀ n t k : Nat, n + d = (w + 1) * (h + 1) → n = cnt x y (w + 1) (h + 1) t → n ≤ most → t ≤ z → 2 * d + 80 ≤ k →
    zcode_Count.l0 k z most n t x y ((x + w : Nat) : Int) ((y + h : Nat) : Int) = some ((min most (cnt x y (w + 1) (h + 1) z) : Nat) : Int) := by
  induction d with
  | zero =>
    intro n t k hd hn hnm ht hk
    have up1 := cnt_mono x y (w + 1) (h + 1) t z ht
    have up2 := cnt_le x y (w + 1) (h + 1) z
    obtain ⟨k, rfl⟩ : ∃ m, k = m + 1 := ⟨k - 1, by omega⟩
    rw [zcode_Count.l0]
    by_cases c : (n : Int) < most
    · rw [if_pos c]
      obtain ⟨nx, ok, e, p⟩ := next_f k x y (x + w) (y + h) t (by omega) (by omega) (by omega) hx hy (by omega)
      rw [e, Option.bind_some]
      obtain ⟨k, rfl⟩ : ∃ m, k = m + 1 := ⟨k - 1, by omega⟩
      cases ok with
      | false =>
        rw [if_neg (by simp), zcode_Count.j1, if_pos rfl]
        rw [show min most (cnt x y (w + 1) (h + 1) z) = n by omega]
      | true =>
        exfalso
        have := cnt_next x y w h t nx hx hy p
        have := cnt_le x y (w + 1) (h + 1) (nx + 1)
        omega
    · rw [if_neg c]
      rw [show min most (cnt x y (w + 1) (h + 1) z) = n by omega]
  | succ d ih =>
    intro n t k hd hn hnm ht hk
    have up1 := cnt_mono x y (w + 1) (h + 1) t z ht
    obtain ⟨k, rfl⟩ : ∃ m, k = m + 1 := ⟨k - 1, by omega⟩
    rw [zcode_Count.l0]
    by_cases c : (n : Int) < most
    · rw [if_pos c]
      obtain ⟨nx, ok, e, p⟩ := next_f k x y (x + w) (y + h) t (by omega) (by omega) (by omega) hx hy (by omega)
      rw [e, Option.bind_some]
      obtain ⟨k, rfl⟩ : ∃ m, k = m + 1 := ⟨k - 1, by omega⟩
      cases ok with
      | false =>
        rw [if_neg (by simp), zcode_Count.j1, if_pos rfl]
        have := cnt_end x y (w + 1) (h + 1) t z ht fun i k hi hk _ => (p.2 rfl).2 (x + i) (y + k) (in_grid (x := x) (y := y) (W := w) (H := h) (i := i) (k := k) hi hk)
        rw [show min most (cnt x y (w + 1) (h + 1) z) = n by omega]
      | true =>
        rw [if_pos rfl]
        by_cases c2 : nx ≥ z
        · rw [zcode_Count.j1, if_pos (decide_eq_true (by omega))]
          have := cnt_end x y (w + 1) (h + 1) t z ht fun i k hi hk hc => by
            have := (p.1 rfl).2.2 (x + i) (y + k) (in_grid (x := x) (y := y) (W := w) (H := h) (i := i) (k := k) hi hk)
            omega
          rw [show min most (cnt x y (w + 1) (h + 1) z) = n by omega]
        · have e1 : IntKind.u64.wrap ((nx : Int) + 1) = ((nx + 1 : Nat) : Int) := by rw [IntKind.wrap_u64]; omega
          have e2 : wrap64 ((n : Int) + 1) = ((n + 1 : Nat) : Int) := by rw [wrap64_in _ (by omega)]; omega
          rw [zcode_Count.j1, if_neg (by simp; omega), e1, if_neg (by clear e1 e2; omega), e2]
          clear e1 e2
          have := cnt_next x y w h t nx hx hy p
          have c3 : nx + 1 ≤ z := by omega
          have c4 : n + 1 ≤ most := by omega
          have c5 : n + 1 + d = (w + 1) * (h + 1) := by rw [← hd]; omega
          clear e p up1
          exact ih (n + 1) (nx + 1) k c5 (by rw [this, ← hn]) c4 c3 (by omega)
    · rw [if_neg c]
      rw [show min most (cnt x y (w + 1) (h + 1) z) = n by omega]
theorem count_f (k x y w h z most : Nat) (hx : x + w < 4294967296) (hy : y + h < 4294967296) (hz : z < 18446744073709551616) (hm : most < 9223372036854775808) (hwh : (w + 1) * (h + 1) ≤ 1000) (hk : 2 * ((w + 1) * (h + 1)) + 80 ≤ k) :
    zcode_Count.f k x y ((x + w : Nat) : Int) ((y + h : Nat) : Int) z most = some ((min most (cnt x y (w + 1) (h + 1) z) : Nat) : Int) := by
  have := count_l x y w h z most hx hy hz hm hwh ((w + 1) * (h + 1)) 0 0 k (by omega) (cnt_zero _ _ _ _).symm (by omega) (by omega) hk
  exact this

end Go.Proofs.Ytabkoclmhdnjfaa.ZF
