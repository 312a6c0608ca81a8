/- Counting the places of a small rectangle, and the loop that counts them by going from one to the next. No condition but the sizes that the theorems name. -/
import Derived.Test.YtabkoclmhdnjfaaZN
namespace Go.Proofs.Ytabkoclmhdnjfaa.ZF
open Go.RowKit Go.Proofs.Ytabkoclmhdnjfaa.PAll Go.Proofs.Ytabkoclmhdnjfaa.Z Go.Proofs.YtabkoclmhdnjfaaW.PrintWords Go.Proofs.YtabkoclmhdnjfaaW.PrintLast Go.Proofs.YtabkoclmhdnjfaaW.PrintMore

/-- How many of the first places of a column are such. -/
def rowc (p : Nat → Bool) (x y : Nat) : Nat → Nat
  | 0 => 0
  | m + 1 => rowc p x y m + (if p (zc 32 x (y + m)) = true then 1 else 0)
/-- How many places of the first columns are such. -/
def gridc (p : Nat → Bool) (x y h : Nat) : Nat → Nat
  | 0 => 0
  | m + 1 => gridc p x y h m + rowc p (x + m) y h
theorem rowc_congr (p q : Nat → Bool) (x y m : Nat) (h : ∀ k, k < m → p (zc 32 x (y + k)) = q (zc 32 x (y + k))) : rowc p x y m = rowc q x y m := by
  induction m with
  | zero => rfl
  | succ m ih => rw [rowc, rowc, ih fun k hk => h k (by omega), h m (by omega)]
theorem gridc_congr (p q : Nat → Bool) (x y h m : Nat) (hh : ∀ i k, i < m → k < h → p (zc 32 (x + i) (y + k)) = q (zc 32 (x + i) (y + k))) : gridc p x y h m = gridc q x y h m := by
  induction m with
  | zero => rfl
  | succ m ih => rw [gridc, gridc, ih fun i k hi hk => hh i k (by omega) hk, rowc_congr p q _ _ _ fun k hk => hh m k (by omega) hk]
theorem rowc_all (x y m : Nat) : rowc (fun _ => true) x y m = m := by
  induction m with
  | zero => rfl
  | succ m ih => rw [rowc, ih]; simp
theorem gridc_all (x y h m : Nat) : gridc (fun _ => true) x y h m = m * h := by
  induction m with
  | zero => simp [gridc]
  | succ m ih => rw [gridc, ih, rowc_all, Nat.succ_mul]
theorem rowc_none (x y m : Nat) : rowc (fun _ => false) x y m = 0 := by
  induction m with
  | zero => rfl
  | succ m ih => rw [rowc, ih]; simp
theorem gridc_none (x y h m : Nat) : gridc (fun _ => false) x y h m = 0 := by
  induction m with
  | zero => rfl
  | succ m ih => rw [gridc, ih, rowc_none]
theorem rowc_mono (p q : Nat → Bool) (x y m : Nat) (h : ∀ c, p c = true → q c = true) : rowc p x y m ≤ rowc q x y m := by
  induction m with
  | zero => exact Nat.le_refl _
  | succ m ih =>
    rw [rowc, rowc]
    have := h (zc 32 x (y + m))
    by_cases hp : p (zc 32 x (y + m)) = true
    · rw [if_pos hp, if_pos (this hp)]; omega
    · rw [if_neg hp]; split <;> omega
theorem gridc_mono (p q : Nat → Bool) (x y h m : Nat) (hh : ∀ c, p c = true → q c = true) : gridc p x y h m ≤ gridc q x y h m := by
  induction m with
  | zero => exact Nat.le_refl _
  | succ m ih =>
    rw [gridc, gridc]
    have := rowc_mono p q (x + m) y h hh
    omega
theorem gridc_le (p : Nat → Bool) (x y h m : Nat) : gridc p x y h m ≤ m * h := by
  rw [← gridc_all x y h m]; exact gridc_mono _ _ _ _ _ _ fun _ _ => rfl
theorem zc_inj {a b c d : Nat} (ha : a < 4294967296) (hb : b < 4294967296) (hc : c < 4294967296) (hd : d < 4294967296) (h : zc 32 a b = zc 32 c d) : a = c ∧ b = d :=
  (less 32 a b c d ha hb hc hd).2 h
/-- One more place is one more. -/
theorem rowc_more (u v n : Nat) (hn : n = zc 32 u v) (hu : u < 4294967296) (hv : v < 4294967296) (x y m : Nat) (hx : x < 4294967296) (hy : y + m ≤ 4294967296) (at0 : Nat) (hat : at0 ≤ n) (hmin : ∀ k, k < m → at0 ≤ zc 32 x (y + k) → n ≤ zc 32 x (y + k)) :
    rowc (fun c => decide (c < n + 1)) x y m = rowc (fun c => decide (c < at0)) x y m + (if x = u ∧ y ≤ v ∧ v < y + m then 1 else 0) := by
  induction m with
  | zero => rw [rowc, rowc, if_neg (by omega)]
  | succ m ih =>
    rw [rowc, rowc, ih (by omega) fun k hk => hmin k (by omega)]
    have h1 := hmin m (by omega)
    by_cases e : zc 32 x (y + m) = n
    · rw [hn] at e
      obtain ⟨e1, e2⟩ := zc_inj hx (by omega) hu hv e
      rw [← hn] at e
      rw [if_neg (by omega), if_pos (decide_eq_true (by omega)), if_neg (by simp; omega), if_pos (by omega)]
    · have h2 : x = u → v ≠ y + m := by
        rintro rfl rfl; exact e hn.symm
      by_cases c : zc 32 x (y + m) < at0
      · rw [if_pos (c := _ = true) (decide_eq_true (by omega)), if_pos (c := _ = true) (decide_eq_true c)]
        by_cases c2 : x = u ∧ y ≤ v ∧ v < y + m
        · rw [if_pos c2, if_pos (by omega)]
        · rw [if_neg c2, if_neg (by omega)]
      · rw [if_neg (c := _ = true) (by simp; omega), if_neg (c := _ = true) (by simp; omega)]
        by_cases c2 : x = u ∧ y ≤ v ∧ v < y + m
        · rw [if_pos c2, if_pos (by omega)]
        · rw [if_neg c2, if_neg (by omega)]
theorem gridc_more (u v n : Nat) (hn : n = zc 32 u v) (hu : u < 4294967296) (hv : v < 4294967296) (x y h m : Nat) (hx : x + m ≤ 4294967296) (hy : y + h ≤ 4294967296) (at0 : Nat) (hat : at0 ≤ n) (hmin : ∀ i k, i < m → k < h → at0 ≤ zc 32 (x + i) (y + k) → n ≤ zc 32 (x + i) (y + k)) :
    gridc (fun c => decide (c < n + 1)) x y h m = gridc (fun c => decide (c < at0)) x y h m + (if (x ≤ u ∧ u < x + m) ∧ y ≤ v ∧ v < y + h then 1 else 0) := by
  induction m with
  | zero => rw [gridc, gridc, if_neg (by omega)]
  | succ m ih =>
    rw [gridc, gridc, ih (by omega) fun i k hi hk => hmin i k (by omega) hk, rowc_more u v n hn hu hv (x + m) y h (by omega) hy at0 hat fun k hk => hmin m k (by omega) hk]
    by_cases c1 : x + m = u
    · by_cases c2 : y ≤ v ∧ v < y + h
      · rw [if_neg (by omega), if_pos (by omega), if_pos (by omega)]; omega
      · rw [if_neg (by omega), if_neg (by omega), if_neg (by omega)]; omega
    · rw [if_neg (c := x + m = u ∧ _) (by omega)]
      by_cases c2 : (x ≤ u ∧ u < x + m) ∧ y ≤ v ∧ v < y + h
      · rw [if_pos c2, if_pos (by omega)]; omega
      · rw [if_neg c2, if_neg (by omega)]; omega

/-- How many places of a rectangle are below. -/
def cnt (x y W H t : Nat) : Nat := gridc (fun c => decide (c < t)) x y H W
theorem cnt_le (x y W H t : Nat) : cnt x y W H t ≤ W * H := gridc_le _ _ _ _ _
theorem cnt_mono (x y W H t s : Nat) (h : t ≤ s) : cnt x y W H t ≤ cnt x y W H s := gridc_mono _ _ _ _ _ _ fun c hc => by
  have := of_decide_eq_true hc
  exact decide_eq_true (by omega)
theorem cnt_zero (x y W H : Nat) : cnt x y W H 0 = 0 := by
  refine (gridc_congr _ (fun _ => false) _ _ _ _ fun i k _ _ => ?_).trans (gridc_none x y H W)
  exact decide_eq_false (Nat.not_lt_zero _)
theorem cnt_end (x y W H t s : Nat) (h : t ≤ s) (hh : ∀ i k, i < W → k < H → zc 32 (x + i) (y + k) < s → zc 32 (x + i) (y + k) < t) : cnt x y W H s = cnt x y W H t :=
  gridc_congr _ _ _ _ _ _ fun i k hi hk => by
    have := hh i k hi hk
    rw [decide_eq_decide]; omega
theorem cnt_full (x y W H t : Nat) (hh : ∀ i k, i < W → k < H → zc 32 (x + i) (y + k) < t) : cnt x y W H t = W * H := by
  rw [← gridc_all x y H W]
  exact gridc_congr _ _ _ _ _ _ fun i k hi hk => decide_eq_true (hh i k hi hk)
theorem in_grid {x y W H i k : Nat} (hi : i < W + 1) (hk : k < H + 1) : In x y (x + W) (y + H) (x + i) (y + k) := ⟨⟨by omega, by omega⟩, by omega, by omega⟩
theorem cnt_next (x y w h t n : Nat) (hx : x + w < 4294967296) (hy : y + h < 4294967296) (hp : Post (In x y (x + w) (y + h)) t n true) : cnt x y (w + 1) (h + 1) (n + 1) = cnt x y (w + 1) (h + 1) t + 1 := by
  obtain ⟨⟨u, v, hi, hn⟩, hz, hmin⟩ := hp.1 rfl
  have a := hi.1
  have b := hi.2
  rw [cnt, cnt, gridc_more u v n hn (by omega) (by omega) x y (h + 1) (w + 1) (by omega) (by omega) t hz fun i k h1 h2 h3 => hmin _ _ (in_grid h1 h2) h3, if_pos (by omega)]


end Go.Proofs.Ytabkoclmhdnjfaa.ZF
