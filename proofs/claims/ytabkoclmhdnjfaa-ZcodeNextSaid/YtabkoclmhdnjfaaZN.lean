/- The next place in a rectangle, over plain numbers: what raising and lowering a place do to its point, and the loop that looks for the next place. No condition but the sizes that the theorems name. -/
import Derived.Test.YtabkoclmhdnjfaaZF
namespace Go.Proofs.Ytabkoclmhdnjfaa.ZF
open Go.RowKit Go.Proofs.Ytabkoclmhdnjfaa.PAll Go.Proofs.Ytabkoclmhdnjfaa.Z Go.Proofs.YtabkoclmhdnjfaaW.PrintWords Go.Proofs.YtabkoclmhdnjfaaW.PrintLast Go.Proofs.YtabkoclmhdnjfaaW.PrintMore

def up (i x : Nat) : Nat := 2 ^ i * (2 * (x / 2 ^ (i + 1)) + 1)
def dn (i x : Nat) : Nat := 2 ^ (i + 1) * (x / 2 ^ (i + 1)) + (2 ^ i - 1)
theorem up_bit (i x j : Nat) : (up i x).testBit j = if j < i then false else if j = i then true else x.testBit j := by
  have h := Nat.testBit_two_pow_mul (a := 2 * (x / 2 ^ (i + 1)) + 1) (i := i) (j := j)
  rw [up, h]
  by_cases h1 : j < i
  · have : ¬ i ≤ j := by omega
    simp [h1, this]
  · rw [if_neg h1]
    have h2 : i ≤ j := by omega
    by_cases h3 : j = i
    · subst h3; simp [Nat.testBit_zero]
    · rw [if_neg h3]
      obtain ⟨d, rfl⟩ : ∃ d, j = i + 1 + d := ⟨j - i - 1, by omega⟩
      have e : i + 1 + d - i = d + 1 := by omega
      have e2 : (2 * (x / 2 ^ (i + 1)) + 1) / 2 = x / 2 ^ (i + 1) := by omega
      rw [e, Nat.testBit_succ, e2, Nat.testBit_div_two_pow]
      have e3 : decide (i + 1 + d ≥ i) = true := decide_eq_true (by omega)
      rw [e3, Bool.true_and, Nat.add_comm d (i + 1)]
theorem dn_bit (i x j : Nat) : (dn i x).testBit j = if j < i then true else if j = i then false else x.testBit j := by
  have hp : 2 ^ i - 1 < 2 ^ (i + 1) := by
    have := Nat.two_pow_pos i
    rw [Nat.pow_succ]; omega
  rw [dn, Nat.testBit_two_pow_mul_add _ hp]
  by_cases h1 : j < i
  · have : j < i + 1 := by omega
    simp [h1, this, Nat.testBit_two_pow_sub_one]
  · rw [if_neg h1]
    by_cases h3 : j = i
    · subst h3; simp [Nat.testBit_two_pow_sub_one]
    · have h4 : ¬ j < i + 1 := by omega
      rw [if_neg h3, if_neg h4, Nat.testBit_div_two_pow]
      congr 1; omega
theorem same_high (i a b : Nat) (h : ∀ j, i < j → a.testBit j = b.testBit j) : a / 2 ^ (i + 1) = b / 2 ^ (i + 1) := by
  apply Nat.eq_of_testBit_eq
  intro j
  rw [Nat.testBit_div_two_pow, Nat.testBit_div_two_pow]
  exact h _ (by omega)
/-- One number's range is split where a bit is set. -/
theorem cut (i a b : Nat) (h : ∀ j, i < j → a.testBit j = b.testBit j) (ha : a.testBit i = false) (hb : b.testBit i = true) :
    up i a = dn i b + 1 ∧ a ≤ dn i b ∧ up i a ≤ b := by
  have e := same_high i a b h
  have d1 := Nat.div_add_mod a (2 ^ (i + 1))
  have d2 := Nat.div_add_mod b (2 ^ (i + 1))
  rw [Nat.testBit_eq_decide_div_mod_eq] at ha hb
  have ha' : a / 2 ^ i % 2 ≠ 1 := of_decide_eq_false ha
  have hb' : b / 2 ^ i % 2 = 1 := of_decide_eq_true hb
  have m1 := Nat.mod_mul (x := a) (a := 2 ^ i) (b := 2)
  have m2 := Nat.mod_mul (x := b) (a := 2 ^ i) (b := 2)
  rw [← Nat.pow_succ] at m1 m2
  have q1 : a / 2 ^ i % 2 = 0 := by omega
  rw [q1, Nat.mul_zero, Nat.add_zero] at m1
  rw [hb', Nat.mul_one] at m2
  rw [m1] at d1
  rw [m2, ← e] at d2
  have l1 := Nat.mod_lt a (Nat.two_pow_pos i)
  have l2 := Nat.mod_lt b (Nat.two_pow_pos i)
  have e3 : 2 ^ (i + 1) * (a / 2 ^ (i + 1)) = 2 ^ i * (2 * (a / 2 ^ (i + 1))) := by rw [Nat.pow_succ, Nat.mul_assoc]
  unfold up dn
  rw [← e, Nat.mul_add, Nat.mul_one, ← e3]
  generalize 2 ^ (i + 1) * (a / 2 ^ (i + 1)) = A at *
  generalize a % 2 ^ i = r at *
  generalize b % 2 ^ i = s at *
  generalize 2 ^ i = w at *
  omega

theorem lt_bit {a b : Nat} (i : Nat) (ha : a.testBit i = false) (hb : b.testBit i = true) (h : ∀ j, i < j → a.testBit j = b.testBit j) : a < b := by
  have := cut i a b h ha hb; omega
/-! raising and lowering -/
def even : Nat := 6148914691236517205
theorem even_bit (j : Nat) : even.testBit j = (decide (j < 64) && decide (j % 2 = 0)) := by
  by_cases h : j < 64
  · have : ∀ j, j < 64 → even.testBit j = decide (j % 2 = 0) := by decide +kernel
    simp [this j h, h]
  · have : even < 2 ^ 64 := by decide
    rw [Nat.testBit_lt_two_pow (Nat.lt_of_lt_of_le this (Nat.pow_le_pow_right (by omega) (by omega)))]
    simp [h]
def bel (b : Nat) : Nat := (if b % 2 = 1 then even * 2 else even) &&& (2 ^ b - 1)
theorem bel_lt (b : Nat) : bel b < 18446744073709551616 := by
  unfold bel
  refine Nat.lt_of_le_of_lt Nat.and_le_left ?_
  split <;> decide
theorem bel_bit (b j : Nat) (hb : b < 64) : (bel b).testBit j = (decide (j < b) && decide (j % 2 = b % 2)) := by
  rw [bel, Nat.testBit_and, Nat.testBit_two_pow_sub_one, Bool.and_comm]
  by_cases h : j < b
  · rw [decide_eq_true h, Bool.true_and, Bool.true_and]
    split
    · rename_i h1
      match j with
      | 0 => simp [Nat.testBit_zero, h1]
      | j + 1 =>
        have : even * 2 / 2 = even := by decide
        rw [Nat.testBit_succ, this, even_bit]
        have : j < 64 := by omega
        rw [decide_eq_true this, Bool.true_and, decide_eq_decide]; omega
    · rw [even_bit]
      have : j < 64 := by omega
      rw [decide_eq_true this, Bool.true_and, decide_eq_decide]; omega
  · rw [decide_eq_false h]; simp
theorem pow_fit (b : Nat) (hb : b < 64) : 2 ^ b < 18446744073709551616 := Nat.pow_lt_pow_right (a := 2) (m := b) (n := 64) (by omega) hb
theorem shl_one (b : Nat) (hb : b < 64) : shl .u64 1 (b : Int) = ((2 ^ b : Nat) : Int) := by
  have := pow_fit b hb
  rw [shl]
  have e : min ((b : Int).toNat) IntKind.u64.bits = b := by simp [IntKind.bits]; omega
  rw [e, IntKind.wrap_u64, Int.one_mul]
  have : ((2 : Int) ^ b) = ((2 ^ b : Nat) : Int) := by norm_cast
  rw [this]
  generalize 2 ^ b = p at *
  omega
theorem below_f (b : Nat) (hb : b < 64) : zcode_below.f b = some ((bel b : Nat) : Int) := by
  have hp := pow_fit b hb
  have h1 := Nat.two_pow_pos b
  rw [zcode_below.f, shl_one b hb]
  have w : IntKind.u64.wrap (((2 ^ b : Nat) : Int) - 1) = ((2 ^ b - 1 : Nat) : Int) := by
    rw [IntKind.wrap_u64]
    generalize 2 ^ b = p at *
    omega
  rw [w]
  have t : Int.tmod (b : Int) 2 = ((b % 2 : Nat) : Int) := by
    rw [Int.tmod_eq_emod_of_nonneg (by omega)]; omega
  rw [t]
  have hp1 : 2 ^ b - 1 < 18446744073709551616 := by omega
  by_cases hm : b % 2 = 1
  · rw [if_pos (by omega), if_pos (by omega), bel, if_pos hm]
    have := u64_and_nat (even * 2) (2 ^ b - 1) (by decide) hp1
    rw [← this]; rfl
  · rw [if_neg (by omega), if_pos (by omega), bel, if_neg hm]
    have := u64_and_nat even (2 ^ b - 1) (by decide) hp1
    rw [← this]; rfl
theorem not_bit (a j : Nat) (ha : a < 18446744073709551616) : (18446744073709551615 - a).testBit j = (decide (j < 64) && !a.testBit j) := by
  have := Nat.testBit_two_pow_sub_succ (n := 64) (x := a) ha j
  have e : 18446744073709551615 - a = 2 ^ 64 - (a + 1) := by omega
  rw [e, this]
def rz (z b : Nat) : Nat := z &&& (18446744073709551615 - bel b) ||| 2 ^ b
def lw (z b : Nat) : Nat := z &&& (18446744073709551615 - 2 ^ b) ||| bel b
theorem raise_f (z b : Nat) (hz : z < 18446744073709551616) (hb : b < 64) : zcode_raise.f z b = some ((rz z b : Nat) : Int) := by
  rw [zcode_raise.f, below_f b hb, Option.bind_some, if_pos (by omega), shl_one b hb, u64_andNot_nat _ _ hz (bel_lt b), u64_or_nat _ _ (Nat.lt_of_le_of_lt Nat.and_le_left hz) (pow_fit b hb)]
  rfl
theorem lower_f (z b : Nat) (hz : z < 18446744073709551616) (hb : b < 64) : zcode_lower.f z b = some ((lw z b : Nat) : Int) := by
  rw [zcode_lower.f, if_pos (by omega), below_f b hb, Option.bind_some, shl_one b hb, u64_andNot_nat _ _ hz (pow_fit b hb), u64_or_nat _ _ (Nat.lt_of_le_of_lt Nat.and_le_left hz) (bel_lt b)]
  rfl
theorem rz_bit (z b j : Nat) (hb : b < 64) : (rz z b).testBit j = (z.testBit j && (decide (j < 64) && !(decide (j < b) && decide (j % 2 = b % 2))) || decide (b = j)) := by
  rw [rz, Nat.testBit_or, Nat.testBit_and, not_bit _ _ (bel_lt b), bel_bit b j hb, Nat.testBit_two_pow]
theorem lw_bit (z b j : Nat) (hb : b < 64) : (lw z b).testBit j = (z.testBit j && (decide (j < 64) && !decide (b = j)) || (decide (j < b) && decide (j % 2 = b % 2))) := by
  rw [lw, Nat.testBit_or, Nat.testBit_and, not_bit _ _ (pow_fit b hb), bel_bit b j hb, Nat.testBit_two_pow]
theorem zc32_bit (a b j : Nat) : (zc 32 a b).testBit j = (decide (j < 64) && if j % 2 = 0 then a.testBit (j / 2) else b.testBit (j / 2)) := zc_bit 32 a b j
theorem rz_even (x y i : Nat) (hi : i < 32) : rz (zc 32 x y) (2 * i) = zc 32 (up i x) y := by
  apply Nat.eq_of_testBit_eq
  intro j
  rw [rz_bit _ _ _ (by omega), zc32_bit, zc32_bit, up_bit]
  have e1 : 2 * i % 2 = 0 := by omega
  rw [e1]
  by_cases h64 : j < 64
  · by_cases hj : j % 2 = 0
    · have c1 : j < 2 * i ↔ j / 2 < i := by omega
      have c2 : 2 * i = j ↔ j / 2 = i := by omega
      simp only [h64, hj, c1, c2]
      by_cases d1 : j / 2 < i
      · have : ¬ j / 2 = i := by omega
        simp [d1, this]
      · by_cases d2 : j / 2 = i <;> simp [d1, d2]
    · have c2 : ¬ 2 * i = j := by omega
      simp [h64, hj, c2]
  · have c2 : ¬ 2 * i = j := by omega
    simp [h64, c2]
theorem rz_odd (x y i : Nat) (hi : i < 32) : rz (zc 32 x y) (2 * i + 1) = zc 32 x (up i y) := by
  apply Nat.eq_of_testBit_eq
  intro j
  rw [rz_bit _ _ _ (by omega), zc32_bit, zc32_bit, up_bit]
  have e1 : (2 * i + 1) % 2 = 1 := by omega
  rw [e1]
  by_cases h64 : j < 64
  · by_cases hj : j % 2 = 0
    · have c2 : ¬ 2 * i + 1 = j := by omega
      have c3 : ¬ j % 2 = 1 := by omega
      simp [h64, hj, c2]
    · have c3 : j % 2 = 1 := by omega
      have c1 : j < 2 * i + 1 ↔ j / 2 < i := by omega
      have c2 : 2 * i + 1 = j ↔ j / 2 = i := by omega
      simp only [h64, c3, c1, c2]
      by_cases d1 : j / 2 < i
      · have : ¬ j / 2 = i := by omega
        simp [d1, this]
      · by_cases d2 : j / 2 = i <;> simp [d1, d2]
  · have c2 : ¬ 2 * i + 1 = j := by omega
    simp [h64, c2]
theorem lw_even (x y i : Nat) (hi : i < 32) : lw (zc 32 x y) (2 * i) = zc 32 (dn i x) y := by
  apply Nat.eq_of_testBit_eq
  intro j
  rw [lw_bit _ _ _ (by omega), zc32_bit, zc32_bit, dn_bit]
  have e1 : 2 * i % 2 = 0 := by omega
  rw [e1]
  by_cases h64 : j < 64
  · by_cases hj : j % 2 = 0
    · have c1 : j < 2 * i ↔ j / 2 < i := by omega
      have c2 : 2 * i = j ↔ j / 2 = i := by omega
      simp only [h64, hj, c1, c2]
      by_cases d1 : j / 2 < i
      · have : ¬ j / 2 = i := by omega
        simp [d1, this]
      · by_cases d2 : j / 2 = i <;> simp [d1, d2]
    · have c2 : ¬ 2 * i = j := by omega
      simp [h64, hj, c2]
  · have c2 : ¬ j < 2 * i := by omega
    simp [h64, c2]
theorem lw_odd (x y i : Nat) (hi : i < 32) : lw (zc 32 x y) (2 * i + 1) = zc 32 x (dn i y) := by
  apply Nat.eq_of_testBit_eq
  intro j
  rw [lw_bit _ _ _ (by omega), zc32_bit, zc32_bit, dn_bit]
  have e1 : (2 * i + 1) % 2 = 1 := by omega
  rw [e1]
  by_cases h64 : j < 64
  · by_cases hj : j % 2 = 0
    · have c2 : ¬ 2 * i + 1 = j := by omega
      simp [h64, hj, c2]
    · have c3 : j % 2 = 1 := by omega
      have c1 : j < 2 * i + 1 ↔ j / 2 < i := by omega
      have c2 : 2 * i + 1 = j ↔ j / 2 = i := by omega
      simp only [h64, c3, c1, c2]
      by_cases d1 : j / 2 < i
      · have : ¬ j / 2 = i := by omega
        simp [d1, this]
      · by_cases d2 : j / 2 = i <;> simp [d1, d2]
  · have c2 : ¬ j < 2 * i + 1 := by omega
    simp [h64, c2]

/-- A box is split at the first bit where its ends differ. -/
theorem split (b x0 y0 x1 y1 : Nat) (hb : b < 64) (hx : x0 ≤ x1) (hy : y0 ≤ y1) (hx1 : x1 < 4294967296) (hy1 : y1 < 4294967296)
    (hs : ∀ j, b < j → (zc 32 x0 y0).testBit j = (zc 32 x1 y1).testBit j) (h0 : (zc 32 x0 y0).testBit b = false) (h1 : (zc 32 x1 y1).testBit b = true) :
    ∃ u0 v0 u1 v1, rz (zc 32 x0 y0) b = zc 32 u0 v0 ∧ lw (zc 32 x1 y1) b = zc 32 u1 v1 ∧
      (x0 ≤ u0 ∧ u0 ≤ x1) ∧ (y0 ≤ v0 ∧ v0 ≤ y1) ∧ (x0 ≤ u1 ∧ u1 ≤ x1) ∧ (y0 ≤ v1 ∧ v1 ≤ y1) ∧
      (∀ u v, x0 ≤ u → u ≤ x1 → y0 ≤ v → v ≤ y1 → (u ≤ u1 ∧ v ≤ v1) ∨ (u0 ≤ u ∧ v0 ≤ v)) := by
  rcases Nat.mod_two_eq_zero_or_one b with hm | hm
  · obtain ⟨i, rfl⟩ : ∃ i, b = 2 * i := ⟨b / 2, by omega⟩
    have hi : i < 32 := by omega
    have g : ∀ j, i ≤ j → j < 32 → (zc 32 x0 y0).testBit (2 * j) = x0.testBit j ∧ (zc 32 x1 y1).testBit (2 * j) = x1.testBit j := by
      intro j _ hj
      have e1 : 2 * j % 2 = 0 := by omega
      have e2 : 2 * j / 2 = j := by omega
      have e3 : 2 * j < 64 := by omega
      rw [zc32_bit, zc32_bit, e1, e2, decide_eq_true e3]; simp
    have big : ∀ a, a < 4294967296 → ∀ j, 32 ≤ j → a.testBit j = false := fun a ha j hj =>
      Nat.testBit_lt_two_pow (Nat.lt_of_lt_of_le ha (Nat.pow_le_pow_right (n := 2) (by omega) hj))
    have hh : ∀ j, i < j → x0.testBit j = x1.testBit j := by
      intro j hj
      by_cases h32 : j < 32
      · rw [← (g j (by omega) h32).1, ← (g j (by omega) h32).2]; exact hs _ (by omega)
      · rw [big x0 (by omega) j (by omega), big x1 hx1 j (by omega)]
    have c := cut i x0 x1 hh (by rw [← (g i (by omega) hi).1]; exact h0) (by rw [← (g i (by omega) hi).2]; exact h1)
    refine ⟨up i x0, y0, dn i x1, y1, rz_even _ _ _ hi, lw_even _ _ _ hi, by omega, by omega, by omega, by omega, ?_⟩
    intro u v _ _ _ _; omega
  · obtain ⟨i, rfl⟩ : ∃ i, b = 2 * i + 1 := ⟨b / 2, by omega⟩
    have hi : i < 32 := by omega
    have g : ∀ j, i ≤ j → j < 32 → (zc 32 x0 y0).testBit (2 * j + 1) = y0.testBit j ∧ (zc 32 x1 y1).testBit (2 * j + 1) = y1.testBit j := by
      intro j _ hj
      have e1 : (2 * j + 1) % 2 = 1 := by omega
      have e2 : (2 * j + 1) / 2 = j := by omega
      have e3 : 2 * j + 1 < 64 := by omega
      rw [zc32_bit, zc32_bit, e1, e2, decide_eq_true e3]; simp
    have big : ∀ a, a < 4294967296 → ∀ j, 32 ≤ j → a.testBit j = false := fun a ha j hj =>
      Nat.testBit_lt_two_pow (Nat.lt_of_lt_of_le ha (Nat.pow_le_pow_right (n := 2) (by omega) hj))
    have hh : ∀ j, i < j → y0.testBit j = y1.testBit j := by
      intro j hj
      by_cases h32 : j < 32
      · rw [← (g j (by omega) h32).1, ← (g j (by omega) h32).2]; exact hs _ (by omega)
      · rw [big y0 (by omega) j (by omega), big y1 hy1 j (by omega)]
    have c := cut i y0 y1 hh (by rw [← (g i (by omega) hi).1]; exact h0) (by rw [← (g i (by omega) hi).2]; exact h1)
    refine ⟨x0, up i y0, x1, dn i y1, rz_odd _ _ _ hi, lw_odd _ _ _ hi, by omega, by omega, by omega, by omega, ?_⟩
    intro u v _ _ _ _; omega

/-- What the next place is. -/
def Post (In : Nat → Nat → Prop) (z n : Nat) (ok : Bool) : Prop :=
  (ok = true → (∃ u v, In u v ∧ n = zc 32 u v) ∧ z ≤ n ∧ ∀ u v, In u v → z ≤ zc 32 u v → n ≤ zc 32 u v) ∧ (ok = false → n = 0 ∧ ∀ u v, In u v → zc 32 u v < z)
theorem bitv (a b : Nat) (ha : a < 18446744073709551616) (hb : b < 64) : Go.bits .and .u64 (shr .u64 (a : Int) (b : Int)) 1 = if a.testBit b = true then 1 else 0 := by
  have e : shr .u64 (a : Int) (b : Int) = ((a / 2 ^ b : Nat) : Int) := by
    rw [shr]
    have e : min ((b : Int).toNat) IntKind.u64.bits = b := by simp [IntKind.bits]; omega
    rw [e]; norm_cast
  have hl : a / 2 ^ b < 18446744073709551616 := Nat.lt_of_le_of_lt (Nat.div_le_self _ _) ha
  have := u64_and_nat (a / 2 ^ b) 1 hl (by decide)
  rw [e, show (1 : Int) = ((1 : Nat) : Int) from rfl, this, nat_mask1, Nat.testBit_eq_decide_div_mod_eq]
  rcases Nat.mod_two_eq_zero_or_one (a / 2 ^ b) with h | h <;> simp [h]
theorem next_l (In : Nat → Nat → Prop) (z : Nat) (hz : z < 18446744073709551616) (hIn : ∀ u v, In u v → u < 4294967296 ∧ v < 4294967296) (hno : ∀ u v, In u v → zc 32 u v ≠ z) :
    ∀ (b k x0 y0 x1 y1 best : Nat) (found : Bool), b ≤ 64 → b + 1 ≤ k → x0 ≤ x1 → y0 ≤ y1 →
    (∀ j, b ≤ j → (zc 32 x0 y0).testBit j = z.testBit j ∧ (zc 32 x1 y1).testBit j = z.testBit j) →
    (∀ u v, x0 ≤ u → u ≤ x1 → y0 ≤ v → v ≤ y1 → In u v) →
    (∀ u v, In u v → z ≤ zc 32 u v → (x0 ≤ u ∧ u ≤ x1 ∧ y0 ≤ v ∧ v ≤ y1) ∨ (found = true ∧ best ≤ zc 32 u v)) →
    (found = true → (∃ u v, In u v ∧ best = zc 32 u v) ∧ zc 32 x1 y1 < best ∧ z < best) → (found = false → best = 0) →
    ∃ (n : Nat) (ok : Bool), zcode_Next.l0 k z ((zc 32 x0 y0 : Nat) : Int) ((zc 32 x1 y1 : Nat) : Int) best found ((64 - b : Nat) : Int) = some ((n : Int), ok) ∧ Post In z n ok := by
  intro b
  induction b with
  | zero =>
    intro k x0 y0 x1 y1 best found _ _ hx hy hs hbox _ _ _
    exact absurd (Nat.eq_of_testBit_eq fun j => (hs j (by omega)).1) (hno x0 y0 (hbox x0 y0 (by omega) hx (by omega) hy))
  | succ b ih =>
    intro k x0 y0 x1 y1 best found hb hk hx hy hs hbox hcov hf hnf
    obtain ⟨k, rfl⟩ : ∃ m, k = m + 1 := ⟨k - 1, by omega⟩
    have in1 := hIn x1 y1 (hbox x1 y1 hx (by omega) hy (by omega))
    have e63 : wrap64 (63 - ((64 - (b + 1) : Nat) : Int)) = (b : Int) := by rw [wrap64_in _ (by omega)]; omega
    have enext : wrap64 (((64 - (b + 1) : Nat) : Int) + 1) = ((64 - b : Nat) : Int) := by rw [wrap64_in _ (by omega)]; omega
    have le : zc 32 x0 y0 ≤ zc 32 x1 y1 := zc_mono 32 x0 y0 x1 y1 hx hy in1.1 in1.2
    rw [zcode_Next.l0, if_pos (by omega), e63, if_pos (by omega), bitv z b hz (by omega), bitv _ b (zc32_lt x0 y0) (by omega), bitv _ b (zc32_lt x1 y1) (by omega), enext]
    have high : ∀ j, b < j → (zc 32 x0 y0).testBit j = (zc 32 x1 y1).testBit j := fun j hj => by rw [(hs j (by omega)).1, (hs j (by omega)).2]
    have same (h1 : (zc 32 x0 y0).testBit b = z.testBit b) (h2 : (zc 32 x1 y1).testBit b = z.testBit b) :
        ∀ j, b ≤ j → (zc 32 x0 y0).testBit j = z.testBit j ∧ (zc 32 x1 y1).testBit j = z.testBit j := by
      intro j hj
      by_cases e : j = b
      · subst e; exact ⟨h1, h2⟩
      · exact hs j (by omega)
    cases zb : z.testBit b <;> cases lb : (zc 32 x0 y0).testBit b <;> cases hb' : (zc 32 x1 y1).testBit b
    · simp only [Bool.false_eq_true, if_false]
      exact ih k x0 y0 x1 y1 best found (by omega) (by omega) hx hy (same (by rw [lb, zb]) (by rw [hb', zb])) hbox hcov hf hnf
    · obtain ⟨u0, v0, u1, v1, r1, r2, c1, c2, c3, c4, c5⟩ := split b x0 y0 x1 y1 (by omega) hx hy in1.1 in1.2 high lb hb'
      have rr := raise_f (zc 32 x0 y0) b (zc32_lt _ _) (by omega)
      have ll := lower_f (zc 32 x1 y1) b (zc32_lt _ _) (by omega)
      rw [r1] at rr
      rw [r2] at ll
      have B0 : ∀ j, b < j → (zc 32 u0 v0).testBit j = z.testBit j := by
        intro j hj
        rw [← r1, rz_bit _ _ _ (by omega), (hs j (by omega)).1]
        have : ¬ b = j := by omega
        have : ¬ j < b := by omega
        by_cases h64 : j < 64
        · simp [*]
        · have := Nat.testBit_lt_two_pow (Nat.lt_of_lt_of_le hz (Nat.pow_le_pow_right (n := 2) (i := 64) (by omega) (show 64 ≤ j by omega)))
          simp [*]
      have B0b : (zc 32 u0 v0).testBit b = true := by rw [← r1, rz_bit _ _ _ (by omega)]; simp
      have B1 : ∀ j, b < j → (zc 32 u1 v1).testBit j = z.testBit j := by
        intro j hj
        rw [← r2, lw_bit _ _ _ (by omega), (hs j (by omega)).2]
        have : ¬ b = j := by omega
        have : ¬ j < b := by omega
        by_cases h64 : j < 64
        · simp [*]
        · have := Nat.testBit_lt_two_pow (Nat.lt_of_lt_of_le hz (Nat.pow_le_pow_right (n := 2) (i := 64) (by omega) (show 64 ≤ j by omega)))
          simp [*]
      have B1b : (zc 32 u1 v1).testBit b = false := by rw [← r2, lw_bit _ _ _ (by omega)]; simp
      have up_le : zc 32 u0 v0 ≤ zc 32 x1 y1 := zc_mono 32 u0 v0 x1 y1 c1.2 c2.2 in1.1 in1.2
      have lt1 : zc 32 u1 v1 < zc 32 u0 v0 := lt_bit b B1b B0b fun j hj => by rw [B0 j hj, B1 j hj]
      have lt2 : z < zc 32 u0 v0 := lt_bit b zb B0b fun j hj => by rw [B0 j hj]
      rw [rr, ll]
      simp only [Bool.false_eq_true, if_false, if_true, beq_self_eq_true, Bool.and_self, Option.bind_some]
      refine ih k x0 y0 u1 v1 (zc 32 u0 v0) true (by omega) (by omega) c3.1 c4.1 ?_ ?_ ?_ ?_ (by simp)
      · intro j hj
        by_cases e : j = b
        · subst e; rw [lb, zb, B1b]; exact ⟨rfl, rfl⟩
        · exact ⟨(hs j (by omega)).1, B1 j (by omega)⟩
      · intro u v q1 q2 q3 q4; exact hbox u v q1 (by omega) q3 (by omega)
      · intro u v q1 q2
        rcases hcov u v q1 q2 with ⟨w1, w2, w3, w4⟩ | ⟨w1, w2⟩
        · rcases c5 u v w1 w2 w3 w4 with ⟨t1, t2⟩ | ⟨t1, t2⟩
          · exact Or.inl ⟨w1, t1, w3, t2⟩
          · exact Or.inr ⟨rfl, zc_mono 32 u0 v0 u v t1 t2 (hIn u v q1).1 (hIn u v q1).2⟩
        · have := (hf w1).2.1
          exact Or.inr ⟨rfl, by omega⟩
      · intro _
        exact ⟨⟨u0, v0, hbox u0 v0 c1.1 c1.2 c2.1 c2.2, rfl⟩, lt1, lt2⟩
    · have : zc 32 x1 y1 < zc 32 x0 y0 := lt_bit b hb' lb fun j hj => (high j hj).symm
      omega
    · have lt : z < zc 32 x0 y0 := lt_bit b zb lb fun j hj => by rw [(hs j (by omega)).1]
      refine ⟨zc 32 x0 y0, true, by simp, ?_, by simp⟩
      intro _
      refine ⟨⟨x0, y0, hbox x0 y0 (by omega) hx (by omega) hy, rfl⟩, by omega, ?_⟩
      intro u v q1 q2
      rcases hcov u v q1 q2 with ⟨w1, w2, w3, w4⟩ | ⟨w1, w2⟩
      · exact zc_mono 32 x0 y0 u v w1 w3 (hIn u v q1).1 (hIn u v q1).2
      · have := (hf w1).2.1
        omega
    · have lt : zc 32 x1 y1 < z := lt_bit b hb' zb fun j hj => by rw [(hs j (by omega)).2]
      refine ⟨best, found, by simp, ?_, ?_⟩
      · intro w
        refine ⟨(hf w).1, by have := (hf w).2.2; omega, ?_⟩
        intro u v q1 q2
        rcases hcov u v q1 q2 with ⟨w1, w2, w3, w4⟩ | ⟨w1, w2⟩
        · have := zc_mono 32 u v x1 y1 w2 w4 in1.1 in1.2
          omega
        · exact w2
      · intro w
        refine ⟨hnf w, ?_⟩
        intro u v q1
        by_cases q2 : z ≤ zc 32 u v
        · rcases hcov u v q1 q2 with ⟨w1, w2, w3, w4⟩ | ⟨w1, w2⟩
          · have := zc_mono 32 u v x1 y1 w2 w4 in1.1 in1.2
            omega
          · rw [w] at w1; cases w1
        · omega
    · obtain ⟨u0, v0, u1, v1, r1, r2, c1, c2, c3, c4, c5⟩ := split b x0 y0 x1 y1 (by omega) hx hy in1.1 in1.2 high lb hb'
      have rr := raise_f (zc 32 x0 y0) b (zc32_lt _ _) (by omega)
      rw [r1] at rr
      have B0 : ∀ j, b < j → (zc 32 u0 v0).testBit j = z.testBit j := by
        intro j hj
        rw [← r1, rz_bit _ _ _ (by omega), (hs j (by omega)).1]
        have : ¬ b = j := by omega
        have : ¬ j < b := by omega
        by_cases h64 : j < 64
        · simp [*]
        · have := Nat.testBit_lt_two_pow (Nat.lt_of_lt_of_le hz (Nat.pow_le_pow_right (n := 2) (i := 64) (by omega) (show 64 ≤ j by omega)))
          simp [*]
      have B0b : (zc 32 u0 v0).testBit b = true := by rw [← r1, rz_bit _ _ _ (by omega)]; simp
      have B1 : ∀ j, b < j → (zc 32 u1 v1).testBit j = z.testBit j := by
        intro j hj
        rw [← r2, lw_bit _ _ _ (by omega), (hs j (by omega)).2]
        have : ¬ b = j := by omega
        have : ¬ j < b := by omega
        by_cases h64 : j < 64
        · simp [*]
        · have := Nat.testBit_lt_two_pow (Nat.lt_of_lt_of_le hz (Nat.pow_le_pow_right (n := 2) (i := 64) (by omega) (show 64 ≤ j by omega)))
          simp [*]
      have B1b : (zc 32 u1 v1).testBit b = false := by rw [← r2, lw_bit _ _ _ (by omega)]; simp
      have lt1 : zc 32 u1 v1 < z := lt_bit b B1b zb fun j hj => by rw [B1 j hj]
      have in2 := hIn u1 v1 (hbox u1 v1 c3.1 c3.2 c4.1 c4.2)
      rw [rr]
      simp only [if_false, if_true, beq_self_eq_true, Bool.and_self, Bool.and_true, Bool.and_false, Bool.false_and, Option.bind_some, show ((1 : Int) == 0) = false from rfl, show ((0 : Int) == 1) = false from rfl, Bool.false_eq_true]
      refine ih k u0 v0 x1 y1 best found (by omega) (by omega) c1.2 c2.2 ?_ ?_ ?_ hf hnf
      · intro j hj
        by_cases e : j = b
        · subst e; rw [hb', zb, B0b]; exact ⟨rfl, rfl⟩
        · exact ⟨B0 j (by omega), (hs j (by omega)).2⟩
      · intro u v q1 q2 q3 q4; exact hbox u v (by omega) q2 (by omega) q4
      · intro u v q1 q2
        rcases hcov u v q1 q2 with ⟨w1, w2, w3, w4⟩ | w
        · rcases c5 u v w1 w2 w3 w4 with ⟨t1, t2⟩ | ⟨t1, t2⟩
          · have := zc_mono 32 u v u1 v1 t1 t2 in2.1 in2.2
            omega
          · exact Or.inl ⟨t1, w2, t2, w4⟩
        · exact Or.inr w
    · have : zc 32 x1 y1 < zc 32 x0 y0 := lt_bit b hb' lb fun j hj => (high j hj).symm
      omega
    · simp only [if_false, if_true, beq_self_eq_true, Bool.and_self, Bool.and_true, Bool.and_false, Bool.false_and, show ((1 : Int) == 0) = false from rfl, show ((0 : Int) == 1) = false from rfl, Bool.false_eq_true]
      exact ih k x0 y0 x1 y1 best found (by omega) (by omega) hx hy (same (by rw [lb, zb]) (by rw [hb', zb])) hbox hcov hf hnf

/-- The points of a rectangle. -/
def In (x0 y0 x1 y1 u v : Nat) : Prop := (x0 ≤ u ∧ u ≤ x1) ∧ (y0 ≤ v ∧ v ≤ y1)
instance (x0 y0 x1 y1 u v : Nat) : Decidable (In x0 y0 x1 y1 u v) := by unfold In; infer_instance
theorem next_f (k x0 y0 x1 y1 z : Nat) (hk : 70 ≤ k) (hx0 : x0 < 4294967296) (hy0 : y0 < 4294967296) (hx1 : x1 < 4294967296) (hy1 : y1 < 4294967296) (hz : z < 18446744073709551616) :
    ∃ (n : Nat) (ok : Bool), zcode_Next.f k x0 y0 x1 y1 z = some ((n : Int), ok) ∧ Post (In x0 y0 x1 y1) z n ok := by
  obtain ⟨k, rfl⟩ : ∃ m, k = m + 1 := ⟨k - 1, by omega⟩
  rw [zcode_Next.f]
  by_cases hx : (x0 : Int) > x1
  · rw [if_pos hx, zcode_Next.j0, if_pos rfl]
    refine ⟨0, false, rfl, by simp, fun _ => ⟨rfl, fun u v h => ?_⟩⟩
    have := h.1; omega
  rw [if_neg hx]
  by_cases hy : (y0 : Int) > y1
  · rw [zcode_Next.j0, if_pos (by simpa using hy)]
    refine ⟨0, false, rfl, by simp, fun _ => ⟨rfl, fun u v h => ?_⟩⟩
    have := h.2; omega
  have hxx : x0 ≤ x1 := by omega
  have hyy : y0 ≤ y1 := by omega
  have hg := code_ga hz
  have hhas : zcode_has.f x0 y0 x1 y1 z = some (decide (In x0 y0 x1 y1 (ga 32 z) (ga 32 (z / 2)))) := by
    rw [zcode_has.f, point_f z hz, Option.bind_some]
    unfold In
    by_cases c1 : (x0 ≤ ga 32 z)
    · rw [if_pos (by omega)]
      by_cases c2 : ga 32 z ≤ x1
      · rw [if_pos (by omega)]
        by_cases c3 : y0 ≤ ga 32 (z / 2)
        · rw [if_pos (by omega)]; simp [c1, c2, c3]
        · rw [if_neg (by omega)]; simp [c3]
      · rw [if_neg (by omega)]; simp [c2]
    · rw [if_neg (by omega)]; simp [c1]
  rw [zcode_Next.j0, if_neg (by simpa using hy), hhas, Option.bind_some]
  by_cases hi : In x0 y0 x1 y1 (ga 32 z) (ga 32 (z / 2))
  · rw [if_pos (decide_eq_true hi)]
    exact ⟨z, true, rfl, fun _ => ⟨⟨_, _, hi, hg.symm⟩, Nat.le_refl _, fun u v _ h => h⟩, by simp⟩
  · rw [if_neg (by simpa using hi), zcode_bounds.f, code_f x0 y0 hx0 hy0, Option.bind_some, code_f x1 y1 hx1 hy1, Option.bind_some, Option.bind_some]
    have hIn : ∀ u v, In x0 y0 x1 y1 u v → u < 4294967296 ∧ v < 4294967296 := fun u v h => ⟨by have := h.1; omega, by have := h.2; omega⟩
    refine next_l (In x0 y0 x1 y1) z hz hIn ?_ 64 k x0 y0 x1 y1 0 false (by omega) (by omega) hxx hyy ?_ ?_ ?_ (by simp) (by simp)
    · intro u v h e
      apply hi
      rw [← e, ga_code (hIn u v h).1, ga_code' (hIn u v h).2]; exact h
    · intro j hj
      have big : ∀ a, a < 18446744073709551616 → a.testBit j = false := fun a ha => Nat.testBit_lt_two_pow (Nat.lt_of_lt_of_le ha (Nat.pow_le_pow_right (n := 2) (by omega) hj))
      rw [big _ (zc32_lt _ _), big _ (zc32_lt _ _), big z hz]; exact ⟨rfl, rfl⟩
    · intro u v q1 q2 q3 q4; exact ⟨⟨q1, q2⟩, q3, q4⟩
    · intro u v h _; exact Or.inl ⟨h.1.1, h.1.2, h.2.1, h.2.2⟩

end Go.Proofs.Ytabkoclmhdnjfaa.ZF
