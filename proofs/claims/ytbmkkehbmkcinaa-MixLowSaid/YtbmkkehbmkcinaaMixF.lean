/- What the functions of mix compute, over numbers of 64 bits: stirring is undone by unstirring, bits and lowest bits are those of the number, alike is how many lowest bits are the same. No condition but that numbers are of 64 bits. -/
import Derived.Test.YtbmkkehbmkcinaaPAllx
import Derived.Laws.BitsAllLaws
import Derived.Laws.Bits64
namespace Go.Proofs.Ytbmkkehbmkcinaa.MixF
open Go.RowKit Go.Proofs.Ytbmkkehbmkcinaa.PAll Go.Proofs.YtbmkkehbmkcinaaW.PrintWords Go.Proofs.YtbmkkehbmkcinaaW.PrintLast Go.Proofs.YtbmkkehbmkcinaaW.PrintMore

def n (v : BitVec 64) : Int := (v.toNat : Int)
theorem n_xor (a b : BitVec 64) : bits .xor .u64 (n a) (n b) = n (a ^^^ b) := by
  rw [n, n, u64_xor_nat a.toNat b.toNat a.isLt b.isLt]; simp [n]
theorem n_and (a b : BitVec 64) : bits .and .u64 (n a) (n b) = n (a &&& b) := by
  rw [n, n, u64_and_nat a.toNat b.toNat a.isLt b.isLt]; simp [n]
theorem n_mul (a : BitVec 64) (c : Nat) (_ : c < 18446744073709551616) : IntKind.u64.wrap (n a * (c : Int)) = n (a * BitVec.ofNat 64 c) := by
  rw [IntKind.wrap_u64, n, n, BitVec.toNat_mul, BitVec.toNat_ofNat]
  simp
theorem n_add (a : BitVec 64) (c : Nat) (_ : c < 18446744073709551616) : IntKind.u64.wrap (n a + (c : Int)) = n (a + BitVec.ofNat 64 c) := by
  rw [IntKind.wrap_u64, n, n, BitVec.toNat_add, BitVec.toNat_ofNat]
  simp
theorem n_sub (a : BitVec 64) (c : Nat) (hc : c < 18446744073709551616) : IntKind.u64.wrap (n a - (c : Int)) = n (a - BitVec.ofNat 64 c) := by
  rw [IntKind.wrap_u64, n, n, BitVec.toNat_sub, BitVec.toNat_ofNat, Nat.mod_eq_of_lt hc]
  have := a.isLt
  omega
theorem n_shr (a : BitVec 64) (k : Nat) : n a / (2 : Int) ^ k = n (a >>> k) := by
  simp [n, BitVec.toNat_ushiftRight, Nat.shiftRight_eq_div_pow]
theorem n_inj {a b : BitVec 64} (h : n a = n b) : a = b := BitVec.eq_of_toNat_eq (by simp [n] at h; omega)

def between : BitVec 64 := BitVec.ofNat 64 11400714819323198485
def first : BitVec 64 := BitVec.ofNat 64 13787848793156543929
def second : BitVec 64 := BitVec.ofNat 64 10723151780598845931
def third : BitVec 64 := BitVec.ofNat 64 10871156337175269513
def fourth : BitVec 64 := BitVec.ofNat 64 3573116690164977347
def sh (s : Nat) (x : BitVec 64) : BitVec 64 := x ^^^ (x >>> s)
def un (s : Nat) (x : BitVec 64) : BitVec 64 := x ^^^ ((x ^^^ (x >>> s)) >>> s)
def mix (k : BitVec 64) : BitVec 64 := sh 31 (sh 27 (sh 30 (k + between) * first) * second)
def unmix (x : BitVec 64) : BitVec 64 := un 30 (un 27 (un 31 x * fourth) * third) - between
theorem far (s : Nat) (h : 64 ≤ s) (x : BitVec 64) : x >>> s = 0#64 := by
  apply BitVec.eq_of_toNat_eq
  rw [BitVec.toNat_ushiftRight, Nat.shiftRight_eq_div_pow]
  have := x.isLt
  have h2 : 2 ^ 64 ≤ 2 ^ s := Nat.pow_le_pow_right (by omega) h
  simp
  omega
theorem un_sh (s : Nat) (h : 64 ≤ s + s + s) (x : BitVec 64) : un s (sh s x) = x := by
  unfold un sh
  simp only [BitVec.ushiftRight_xor_distrib, ← BitVec.shiftRight_add]
  rw [far (s + s + s) h x]
  generalize x >>> s = a
  generalize x >>> (s + s) = b
  have : x ^^^ a ^^^ (a ^^^ b ^^^ (b ^^^ 0#64)) = x ^^^ (a ^^^ a) ^^^ (b ^^^ b) := by rw [BitVec.xor_zero]; ac_rfl
  rw [this]; simp
theorem sh_un (s : Nat) (h : 64 ≤ s + s + s) (x : BitVec 64) : sh s (un s x) = x := by
  unfold un sh
  simp only [BitVec.ushiftRight_xor_distrib, ← BitVec.shiftRight_add]
  rw [far (s + s + s) h x]
  generalize x >>> s = a
  generalize x >>> (s + s) = b
  have : x ^^^ (a ^^^ b) ^^^ (a ^^^ (b ^^^ 0#64)) = x ^^^ (a ^^^ a) ^^^ (b ^^^ b) := by rw [BitVec.xor_zero]; ac_rfl
  rw [this]; simp
theorem unmix_mix (k : BitVec 64) : unmix (mix k) = k := by
  unfold unmix mix
  rw [un_sh 31 (by omega), BitVec.mul_assoc, show second * fourth = 1#64 from by decide, BitVec.mul_one, un_sh 27 (by omega), BitVec.mul_assoc, show first * third = 1#64 from by decide, BitVec.mul_one, un_sh 30 (by omega), BitVec.add_sub_cancel]
theorem mix_unmix (x : BitVec 64) : mix (unmix x) = x := by
  unfold unmix mix
  rw [BitVec.sub_add_cancel, sh_un 30 (by omega), BitVec.mul_assoc, show third * first = 1#64 from by decide, BitVec.mul_one, sh_un 27 (by omega), BitVec.mul_assoc, show fourth * second = 1#64 from by decide, BitVec.mul_one, sh_un 31 (by omega)]
theorem mix_inj {a b : BitVec 64} (h : mix a = mix b) : a = b := by rw [← unmix_mix a, h, unmix_mix]

theorem n_half (s : Nat) (a : BitVec 64) (c : Int) (hc : c = (2 : Int) ^ s) : bits .xor .u64 (n a) (n a / c) = n (sh s a) := by
  rw [hc, n_shr, n_xor]; rfl
theorem mix_f (k : BitVec 64) : mix_Mix.f (n k) = some (n (mix k)) := by
  unfold mix_Mix.f
  have e1 : IntKind.u64.wrap (n k + 11400714819323198485) = n (k + between) := n_add k 11400714819323198485 (by decide)
  rw [e1, n_half 30 _ 1073741824 (by decide)]
  have e2 : IntKind.u64.wrap (n (sh 30 (k + between)) * 13787848793156543929) = n (sh 30 (k + between) * first) := n_mul _ 13787848793156543929 (by decide)
  rw [e2, n_half 27 _ 134217728 (by decide)]
  have e3 : IntKind.u64.wrap (n (sh 27 (sh 30 (k + between) * first)) * 10723151780598845931) = n (sh 27 (sh 30 (k + between) * first) * second) := n_mul _ 10723151780598845931 (by decide)
  rw [e3, n_half 31 _ 2147483648 (by decide)]
  rfl
theorem unshift_f (s : Nat) (k : Nat) (hs : 22 ≤ s) (h2 : s + s < 64) (x : BitVec 64) : mix_unshift.f (k + 3) (n x) s = some (n (un s x)) := by
  have hsh : ∀ y : BitVec 64, shr .u64 (n y) (s : Int) = n (y >>> s) := by
    intro y
    rw [shr, Int.toNat_natCast, show min s IntKind.u64.bits = s from Nat.min_eq_left (by show s ≤ 64; omega), n_shr]
  have w1 : wrap64 ((s : Int) + s) = ((s + s : Nat) : Int) := by unfold wrap64; omega
  have w2 : wrap64 (((s + s : Nat) : Int) + s) = ((s + s + s : Nat) : Int) := by unfold wrap64; omega
  rw [mix_unshift.f, mix_unshift.l0, if_pos (by omega), if_pos (by omega), hsh, n_xor, w1, mix_unshift.l0, if_pos (by omega), if_pos (by omega), hsh, n_xor, w2, mix_unshift.l0, if_neg (by omega)]
  rfl
theorem unmix_f (k : Nat) (x : BitVec 64) : mix_Unmix.f (k + 3) (n x) = some (n (unmix x)) := by
  have u31 : ∀ x, mix_unshift.f (k + 3) (n x) 31 = some (n (un 31 x)) := unshift_f 31 k (by omega) (by omega)
  have u27 : ∀ x, mix_unshift.f (k + 3) (n x) 27 = some (n (un 27 x)) := unshift_f 27 k (by omega) (by omega)
  have u30 : ∀ x, mix_unshift.f (k + 3) (n x) 30 = some (n (un 30 x)) := unshift_f 30 k (by omega) (by omega)
  unfold mix_Unmix.f
  have e2 : ∀ y, IntKind.u64.wrap (n y * 3573116690164977347) = n (y * fourth) := fun y => n_mul y 3573116690164977347 (by decide)
  have e3 : ∀ y, IntKind.u64.wrap (n y * 10871156337175269513) = n (y * third) := fun y => n_mul y 10871156337175269513 (by decide)
  have e4 : ∀ y, IntKind.u64.wrap (n y - 11400714819323198485) = n (y - between) := fun y => n_sub y 11400714819323198485 (by decide)
  rw [u31, Option.bind_some, e2, u27, Option.bind_some, e3, u30, Option.bind_some, e4]
  rfl

/-! Bits. -/
def m (a : BitVec 64) : Nat := (mix a).toNat
theorem m_lt (a : BitVec 64) : m a < 2 ^ 64 := (mix a).isLt
theorem bit_num (x : BitVec 64) (i : Nat) (hi : i < 64) : bits .and .u64 (shr .u64 (n x) (i : Int)) 1 = ((x.toNat / 2 ^ i % 2 : Nat) : Int) := by
  rw [shr, Int.toNat_natCast, show min i IntKind.u64.bits = i from Nat.min_eq_left (by show i ≤ 64; omega), n_shr, show (1 : Int) = n 1#64 from rfl, n_and]
  rw [n, BitVec.toNat_and, BitVec.toNat_ushiftRight, Nat.shiftRight_eq_div_pow, show (1#64).toNat = 1 from rfl, Nat.and_one_is_mod]
theorem testBit_num (x i : Nat) : x.testBit i = decide (x / 2 ^ i % 2 = 1) := Nat.testBit_eq_decide_div_mod_eq
theorem bit_f (a : BitVec 64) (i : Nat) (hi : i < 64) : mix_Bit.f (n a) i = some ((m a).testBit i) := by
  unfold mix_Bit.f
  rw [if_pos (by omega), if_pos (by omega), mix_f, Option.bind_some, if_pos (by omega), bit_num _ i hi, testBit_num]
  congr 1
  have h2 : (mix a).toNat / 2 ^ i % 2 < 2 := Nat.mod_lt _ (by omega)
  rw [m]
  generalize (mix a).toNat / 2 ^ i % 2 = z at h2
  have : z = 0 ∨ z = 1 := by omega
  rcases this with rfl | rfl <;> rfl
theorem bit_out (a : BitVec 64) (i : Int) (hi : ¬ (0 ≤ i ∧ i < 64)) : mix_Bit.f (n a) i = some false := by
  unfold mix_Bit.f
  by_cases h : i ≥ 0
  · rw [if_pos h, if_neg (by omega)]
  · rw [if_neg h]
theorem ref_mix (k : BitVec 64) : counterpaneref03_Mix.f (n k) = some (n (mix k)) := by
  have ho : ∀ (y : BitVec 64) (s : Nat) (c : Int), c = (2 : Int) ^ s → c ≠ 0 → counterpaneref03_over.f (n y) c = some (n (sh s y)) := by
    intro y s c hc h0
    have h1 : 0 ≤ n y := Int.natCast_nonneg _
    have h2 : 0 ≤ c := by rw [hc]; exact Int.pow_nonneg (by decide)
    have h3 : IntKind.u64.wrap (n (y >>> s)) = n (y >>> s) := by rw [IntKind.wrap_u64, n]; have := (y >>> s).isLt; omega
    rw [counterpaneref03_over.f, if_neg h0, Int.tdiv_eq_ediv_of_nonneg h1, hc, n_shr, h3, n_xor]; rfl
  unfold counterpaneref03_Mix.f
  have e1 : IntKind.u64.wrap (n k + 11400714819323198485) = n (k + between) := n_add k 11400714819323198485 (by decide)
  have e2 : ∀ y, IntKind.u64.wrap (n y * 13787848793156543929) = n (y * first) := fun y => n_mul y 13787848793156543929 (by decide)
  have e3 : ∀ y, IntKind.u64.wrap (n y * 10723151780598845931) = n (y * second) := fun y => n_mul y 10723151780598845931 (by decide)
  rw [e1, ho _ 30 _ (by decide) (by decide), Option.bind_some, e2, ho _ 27 _ (by decide) (by decide), Option.bind_some, e3, ho _ 31 _ (by decide) (by decide), Option.bind_some]
  rfl
theorem ref_bit_l (t : Nat) (d : Nat) : ∀ (k x i : Nat), x < 2 ^ 64 → i + d = t → t < 1000 → counterpaneref03_bit.l0 (k + d + 1) t x i = some (((x / 2 ^ d % 2 : Nat) : Int)) := by
  induction d with
  | zero =>
    intro k x i hx hi _
    rw [counterpaneref03_bit.l0, if_neg (by omega), Int.tmod_eq_emod_of_nonneg (by omega)]
    congr 1
    unfold wrap64; omega
  | succ d ih =>
    intro k x i hx hi ht
    have e1 : wrap64 ((i : Int) + 1) = ((i + 1 : Nat) : Int) := by unfold wrap64; omega
    have e2 : IntKind.u64.wrap (Int.tdiv (x : Int) 2) = ((x / 2 : Nat) : Int) := by
      rw [Int.tdiv_eq_ediv_of_nonneg (by omega), IntKind.wrap_u64]; omega
    rw [show k + (d + 1) + 1 = (k + d + 1) + 1 from by omega, counterpaneref03_bit.l0, if_pos (by omega), e1, e2, ih k (x / 2) (i + 1) (by omega) (by omega) ht, Nat.div_div_eq_div_mul, Nat.pow_succ, Nat.mul_comm 2]
theorem ref_bit (a : BitVec 64) (i : Nat) (hi : i < 64) (k : Nat) (hk : 65 ≤ k) : counterpaneref03_Bit.f k (n a) i = some ((m a).testBit i) := by
  unfold counterpaneref03_Bit.f
  rw [if_pos (by omega), if_pos (by omega), ref_mix, Option.bind_some, counterpaneref03_bit.f, show n (mix a) = ((m a : Nat) : Int) from rfl, show k = (k - i - 1) + i + 1 from by omega, show (0 : Int) = ((0 : Nat) : Int) from rfl, ref_bit_l i i _ (m a) 0 (m_lt a) (by omega) (by omega), Option.bind_some, testBit_num]
  congr 1
  have h2 : m a / 2 ^ i % 2 < 2 := Nat.mod_lt _ (by omega)
  generalize m a / 2 ^ i % 2 = z at h2
  have : z = 0 ∨ z = 1 := by omega
  rcases this with rfl | rfl <;> rfl
theorem ref_bit_out (a : BitVec 64) (i : Int) (hi : ¬ (0 ≤ i ∧ i < 64)) (k : Nat) : counterpaneref03_Bit.f k (n a) i = some false := by
  unfold counterpaneref03_Bit.f
  by_cases h : i ≥ 0
  · rw [if_pos h, if_neg (by omega)]
  · rw [if_neg h]

/-- How many lowest bits are the same, from bit i on. -/
def al (a b : BitVec 64) : Nat → Nat → Nat
  | 0, i => i
  | d + 1, i => if (m a).testBit i = (m b).testBit i then al a b d (i + 1) else i
def alike (a b : BitVec 64) : Nat := al a b 64 0
theorem al_spec (a b : BitVec 64) (d : Nat) : ∀ i, i ≤ al a b d i ∧ al a b d i ≤ i + d ∧ (∀ j, i ≤ j → j < al a b d i → (m a).testBit j = (m b).testBit j) ∧ (al a b d i < i + d → (m a).testBit (al a b d i) ≠ (m b).testBit (al a b d i)) := by
  induction d with
  | zero => intro i; exact ⟨Nat.le_refl _, Nat.le_refl _, fun j h1 h2 => by simp only [al] at h2; omega, fun h => by simp [al] at h⟩
  | succ d ih =>
    intro i
    by_cases h : (m a).testBit i = (m b).testBit i
    · have e : al a b (d + 1) i = al a b d (i + 1) := by rw [al, if_pos h]
      obtain ⟨h1, h2, h3, h4⟩ := ih (i + 1)
      rw [e]
      refine ⟨by omega, by omega, fun j hj1 hj2 => ?_, fun hl => h4 (by omega)⟩
      by_cases hji : j = i
      · subst hji; exact h
      · exact h3 j (by omega) hj2
    · have e : al a b (d + 1) i = i := by rw [al, if_neg h]
      rw [e]
      exact ⟨Nat.le_refl _, by omega, fun j h1 h2 => by omega, fun _ => h⟩
theorem alike_le (a b : BitVec 64) : alike a b ≤ 64 := by have := (al_spec a b 64 0).2.1; unfold alike; omega
theorem alike_same (a b : BitVec 64) (j : Nat) (h : j < alike a b) : (m a).testBit j = (m b).testBit j := (al_spec a b 64 0).2.2.1 j (by omega) h
theorem alike_not (a b : BitVec 64) (h : alike a b < 64) : (m a).testBit (alike a b) ≠ (m b).testBit (alike a b) := (al_spec a b 64 0).2.2.2 (by unfold alike at h; omega)
theorem alike_64 (a b : BitVec 64) : alike a b = 64 ↔ a = b := by
  constructor
  · intro h
    apply mix_inj
    apply BitVec.eq_of_toNat_eq
    apply Nat.eq_of_testBit_eq
    intro i
    by_cases hi : i < 64
    · exact alike_same a b i (by omega)
    · have : ∀ z : BitVec 64, z.toNat.testBit i = false := fun z => Nat.testBit_lt_two_pow (Nat.lt_of_lt_of_le z.isLt (Nat.pow_le_pow_right (by omega) (by omega)))
      rw [this, this]
  · intro h
    subst h
    have := alike_le a a
    by_cases h : alike a a < 64
    · exact absurd rfl (alike_not a a h)
    · omega
theorem alike_l (a b : BitVec 64) (d : Nat) : ∀ (k i : Nat), i + d = 64 → mix_Alike.l0 (k + d + 1) (n (mix a ^^^ mix b)) i = some ((al a b d i : Nat) : Int) := by
  induction d with
  | zero => intro k i hi; rw [mix_Alike.l0, if_neg (by omega)]; rfl
  | succ d ih =>
    intro k i hi
    have e1 : wrap64 ((i : Int) + 1) = ((i + 1 : Nat) : Int) := by unfold wrap64; omega
    rw [show k + (d + 1) + 1 = (k + d + 1) + 1 from by omega, mix_Alike.l0, if_pos (by omega), if_pos (by omega), bit_num _ i (by omega), e1]
    have hx : ((mix a ^^^ mix b).toNat / 2 ^ i % 2 = 1) ↔ (m a).testBit i ≠ (m b).testBit i := by
      have h := testBit_num (mix a ^^^ mix b).toNat i
      rw [BitVec.toNat_xor, Nat.testBit_xor] at h
      rw [BitVec.toNat_xor, ← decide_eq_true_iff (p := ((mix a).toNat ^^^ (mix b).toNat) / 2 ^ i % 2 = 1), ← h]
      simp [m]
    by_cases h : (m a).testBit i = (m b).testBit i
    · have h0 : (mix a ^^^ mix b).toNat / 2 ^ i % 2 = 0 := by
        have : ¬ (mix a ^^^ mix b).toNat / 2 ^ i % 2 = 1 := fun e => (hx.1 e) h
        omega
      rw [h0, if_pos (by rfl), ih k (i + 1) (by omega), al, if_pos h]
    · have h1 := hx.2 h
      rw [h1, if_neg (by omega), al, if_neg h]
theorem alike_f (a b : BitVec 64) (k : Nat) (hk : 65 ≤ k) : mix_Alike.f k (n a) (n b) = some ((alike a b : Nat) : Int) := by
  rw [mix_Alike.f, mix_f, Option.bind_some, mix_f, Option.bind_some, n_xor, show k = (k - 65) + 64 + 1 from by omega]
  exact alike_l a b 64 (k - 65) 0 rfl
theorem ref_alike_l (a b : BitVec 64) (d : Nat) : ∀ (k i : Nat), i + d = 64 → counterpaneref03_Alike.l0 (k + 65 + d + 1) (n a) (n b) i = some ((al a b d i : Nat) : Int) := by
  induction d with
  | zero => intro k i hi; rw [counterpaneref03_Alike.l0, if_neg (by omega)]; rfl
  | succ d ih =>
    intro k i hi
    have e1 : wrap64 ((i : Int) + 1) = ((i + 1 : Nat) : Int) := by unfold wrap64; omega
    rw [show k + 65 + (d + 1) + 1 = (k + 65 + d + 1) + 1 from by omega, counterpaneref03_Alike.l0, if_pos (by omega), ref_bit a i (by omega) _ (by omega), Option.bind_some, ref_bit b i (by omega) _ (by omega), Option.bind_some, e1]
    by_cases h : (m a).testBit i = (m b).testBit i
    · rw [if_pos (by rw [h]; simp), ih k (i + 1) (by omega), al, if_pos h]
    · rw [if_neg (by simpa using h), al, if_neg h]
theorem ref_alike (a b : BitVec 64) (k : Nat) (hk : 130 ≤ k) : counterpaneref03_Alike.f k (n a) (n b) = some ((alike a b : Nat) : Int) := by
  rw [counterpaneref03_Alike.f, show k = (k - 130) + 65 + 64 + 1 from by omega]
  exact ref_alike_l a b 64 (k - 130) 0 rfl
/-- The lowest bits. -/
theorem low_f (a : BitVec 64) (j : Nat) (hj : j ≤ 32) : mix_Low.f (n a) j = some ((m a % 2 ^ j : Nat) : Int) := by
  unfold mix_Low.f
  by_cases h0 : (j : Int) < 1
  · obtain rfl : j = 0 := by omega
    rw [if_pos h0]; simp [Nat.mod_one]
  · have hm : mn (j : Int) 32 = j := by unfold mn; by_cases h : (32 : Int) < j <;> simp [h] <;> omega
    have hp : 2 ^ j ≤ 2 ^ 32 := Nat.pow_le_pow_right (by omega) hj
    have hp1 : 1 ≤ 2 ^ j := Nat.one_le_two_pow
    have e1 : IntKind.u64.wrap ((2 : Int) ^ j) = ((2 ^ j : Nat) : Int) := by
      rw [IntKind.wrap_u64, show ((2 : Int) ^ j) = ((2 ^ j : Nat) : Int) from by simp]
      exact Int.emod_eq_of_lt (Int.natCast_nonneg _) (by omega)
    have e2 : IntKind.u64.wrap (((2 ^ j : Nat) : Int) - 1) = ((2 ^ j - 1 : Nat) : Int) := by
      rw [IntKind.wrap_u64, show ((2 ^ j : Nat) : Int) - 1 = ((2 ^ j - 1 : Nat) : Int) from by omega]
      exact Int.emod_eq_of_lt (Int.natCast_nonneg _) (by omega)
    rw [if_neg h0, mix_f, Option.bind_some, hm, if_pos (by omega), Int.toNat_natCast, e1, e2, n, u64_and_nat _ _ (mix a).isLt (by omega), Nat.and_two_pow_sub_one_eq_mod]
    congr 1
    have : (mix a).toNat % 2 ^ j < 2 ^ j := Nat.mod_lt _ (by omega)
    unfold wrap64 m
    omega
theorem of_u64 {a : Int} (h : (Lit.int .u64 a).wf = true) : ∃ v : BitVec 64, a = n v := by
  simp [Lit.wf, IntKind.min, IntKind.max, IntKind.signed, IntKind.bits] at h
  refine ⟨BitVec.ofNat 64 a.toNat, ?_⟩
  simp [n]; omega
theorem works_f (k : Nat) (hk : 70 ≤ k) : counterpanelaw03_works.f k = some true := by
  exact at_rounds (g := fun k => counterpanelaw03_works.f k) (fun k => counterpanelaw03_works.mono k) hk (by kernel_rfl)
end Go.Proofs.Ytbmkkehbmkcinaa.MixF
